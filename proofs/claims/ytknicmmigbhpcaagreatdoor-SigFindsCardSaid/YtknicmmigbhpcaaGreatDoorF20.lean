/- Walks and plain laws: ShowI, ShowJ, ShowK, ShowL. -/
import Derived.Test.YtknicmmigbhpcaaGreatDoorF19
set_option maxHeartbeats 16000000
set_option maxRecDepth 100000
set_option linter.unusedVariables false
set_option linter.unusedSimpArgs false
namespace Go.Proofs.YtknicmmigbhpcaaGreatDoor
open Go.RowKit Go
theorem tF:∀ (l:List (List UInt8)) (t:List UInt8),bg (l++[t])=if l=[] then t else bg l++[44,32]++t
 | [],t=>rfl
 | [a],t=>by simp[bg]
 | a :: b :: l,t=>by
  have ih:=tF (b :: l) t;rw[if_neg (by simp)] at ih ⊢;simp only[List.cons_append] at ih ⊢;rw[bg,ih,bg]
  simp
theorem FT:∀ (l r:List (List UInt8)),(bg l).length≤(bg (l++r)).length
 | l,[]=>by simp
 | l,t :: r=>by
  have h:=FT (l++[t]) r;rw[List.append_assoc] at h;have h2:=tF l t;refine Nat.le_trans ?_ h;rw[h2]
  split
  ·rename_i q;subst q;simp[bg]
  ·simp only[bP];omega
 termination_by _ r=>r.length
def Vp (f:FuncId)(lb:Array Value)(B' b:Nat)(w:World)(x:PZ):Prop:=∀ (acc:List UInt8) (W:World) (am:Option Addr) (wn cm:Nat) (ak:Option Addr) (ck:Nat),jI w B' b acc W→oI YA (fun k=>k<B') W (.slice am wn cm) (.slice ak x.kids.length ck) x→acc.length+x.text.length≤1099511627776 →
 Calls Tryz.prog f (#[.agg #[.int .i64 x.op,.string ⟨x.name.toArray⟩,.string ⟨x.module.toArray⟩,.bool (decide (x.num<0)),.slice am wn cm,.bool x.yes,.slice ak x.kids.length ck,.int .i64 x.at_]]++lb) W (bS B' b (acc++x.text) W)
theorem Vq (f:FuncId)(lb:Array Value)(eg:∀ args w,(callFunc f args).run Tryz.prog w=.ok (.enter f args) w)(ks:List PZ)(B B' b:Nat)(ae:Option Addr)(ce:Nat)(acc:List UInt8)(w:World)(hk:∀ x∈ks,Vp f lb B' b w x)(h:jH B w ae ks)(mP:B≤B')(hbd:jO B' b acc w 155)(hB:B'≤w.heap.size)(hn:acc.length+(bg (ks.map PZ.text)).length≤1099511627776)(hkl:ks.length≤1000000) :
  Calls Tryz.prog 259 #[.pointer (some ⟨b,0,none⟩),.slice ae ks.length ce,.func (.func f) #[] lb] w (bS B' b (acc++bg (ks.map PZ.text)) w):=by
 have HH:=ah h;have HK:=ah hk;have HB:=ah hbd;clear h hk hbd;go_enter Tryz.func259,Tryz.ntmps259;go_wp2
 go_loopw [6,10] (fun _ q wr=>∃ k:Nat,k≤ks.length∧q=.int .i64 k∧jI w B' b (acc++bg ((ks.map PZ.text).take k)) wr) (fun _ q _=>ks.length - (intOf q).toNat)
 case atStart=>exact⟨0,Nat.zero_le _,rfl,by simpa [bg] using jI.start HB.out⟩
 case round =>
  obtain⟨k,hkk,rfl,st⟩:=hrel;have hz:=st.rQ.size
  by_cases hlt:k<ks.length
  ·have hlm:k<(ks.map PZ.text).length:=by simpa using hlt
   have hts:(ks.map PZ.text).take (k+1)=(ks.map PZ.text).take k++[ks[k].text]:=by rw[List.take_succ_eq_append_getElem hlm];simp
   have hsn:=tF ((ks.map PZ.text).take k) ks[k].text;rw[← hts] at hsn;have hle:=FT ((ks.map PZ.text).take (k+1)) ((ks.map PZ.text).drop (k+1));rw[List.take_append_drop] at hle
   have hnil:((ks.map PZ.text).take k=[])↔k=0:=by
    constructor
    ·intro q
     have:=congrArg List.length q;rw[List.length_take,List.length_nil] at this;omega
    ·rintro rfl;rfl
   simp only[hnil] at hsn;have HD:=ah (HK.out _ (List.getElem_mem hlt));obtain⟨kb,off,FP,FQ,FR,IY,ck1,rfl,hkB,hE,x0,x1,x2,x3,x4,x5,x6,x7⟩:=HH.out.at (st.rQ.mono mP) hlt;have pQ:=ah hsn;have HST:=ah st
   have hc0:k=0→bg ((ks.map PZ.text).take k)=[]:=by rintro rfl;rfl
   have HC0:=ah hc0;clear hsn hts hlm hnil st hc0;generalize bg ((ks.map PZ.text).take k)=c at pQ HST HC0;generalize hcc:bg ((ks.map PZ.text).take (k+1))=c2 at hle pQ;have HCC:=ah hcc;clear hcc;generalize ks[k]=x at *
   have nJ:(k:Int)<(ks.length:Int):=by omega
   have hln:acc.length+c2.length≤1099511627776:=by omega
   have hal:=aj wr (.cells (aU x.op ⟨x.name.toArray⟩ ⟨x.module.toArray⟩ (decide (x.num<0)) (.slice FP FQ FR) x.yes (.slice IY x.kids.length ck1) x.at_) 46);have hN:=heap_alloc_new wr (.cells (aU x.op ⟨x.name.toArray⟩ ⟨x.module.toArray⟩ (decide (x.num<0)) (.slice FP FQ FR) x.yes (.slice IY x.kids.length ck1) x.at_) 46);have s1:=HST.out.below hal hB;have hE1:=hE.frame (aQ.sI (hal.mono (Nat.le_trans hB hz)) (fun b hb=>by omega:∀ b,b<B→b<B'));clear hle hE
   go_upto_region 3 with fail
   change Code.wp _ _ _ _ (wr.alloc (.cells (aU x.op ⟨x.name.toArray⟩ ⟨x.module.toArray⟩ (decide (x.num<0)) (.slice FP FQ FR) x.yes (.slice IY x.kids.length ck1) x.at_) 46));clear x0 x1 x2 x3 x4 x5 x6 x7;generalize wr.alloc _=w1 at hal hN s1 hE1 ⊢;have hz1:=hal.size
   by_cases h0:k=0
   ·have HS0:Hid (c2=x.text):=ah (by rw[pQ.out,if_pos h0])
    have hc0:=HC0.out h0;subst hc0;rw[List.append_nil] at s1;have HX:=ah (HD.out acc w1 FP FQ FR IY ck1 s1 (hE1.imp fun b hb _=>by omega) (by rw[← HS0.out];exact hln));have Ee:Hid (bg ((ks.map PZ.text).take (k+1))=c2):=HCC;have XI:=ah s1;obtain⟨y0,y1,y2,y3,y4,y5,y6,y7⟩:=aG hN
    have adS:(k:Int)≤0:=by omega
    clear pQ HST HD hal hN s1 hE1 HC0 HCC h0;go_wp2_with (go_at_fn f;refine HX.out.mono ?_;rintro r w3 h3;obtain rfl:=h3.eq);refine⟨⟨k+1,by omega,by go_num,?_⟩,by simp[intOf];omega⟩;rw[Ee.out,HS0.out];exact XI.out.write h3
   ·have HS0:Hid (c2=c++[44,32]++x.text):=ah (by rw[pQ.out,if_neg h0])
    have hl2:acc.length+c.length+2+x.text.length≤1099511627776:=by
     have:=congrArg List.length HS0.out;simp only[bP,dX,List.length_nil] at this;omega
    have adS:(0:Int)<(k:Int):=by omega
    have Ee:Hid (bg ((ks.map PZ.text).take (k+1))=c2):=HCC;clear h0 pQ HC0 HCC hln
    go_upto_region 5 with (go_at_call 128;refine(iN ⟨#[44,32]⟩ B' b (acc++c) w1 s1.qM (by omega) (by show (acc++c).length+2≤_;rw[bP];omega)).mono ?_;rintro r w2 h2;obtain rfl:=h2.eq)
    have s2:=s1.write h2;obtain⟨y0,y1,y2,y3,y4,y5,y6,y7⟩:=aG (s1.qM.block h2.2.2.2 hN (by decide) (by decide));have HX:=ah (HD.out (acc++c++[44,32]) w2 FP FQ FR IY ck1 s2 ((hE1.frame (aQ.sI h2.2.2.1 fun b hb=>by omega)).imp fun b hb _=>by omega) (by simp only[bP,dX,List.length_nil];omega));have XI:=ah s2;clear HST HD hal hN s1 hE1 s2 h2;go_wp2_with (go_at_fn f;refine HX.out.mono ?_;rintro r w3 h3;obtain rfl:=h3.eq);refine⟨⟨k+1,by omega,by go_num,?_⟩,by simp[intOf];omega⟩;have:=XI.out.write h3;rw[Ee.out,HS0.out]
    simpa [List.append_assoc] using this
  ·obtain rfl:k=ks.length:=by omega
   have nJ:decide ((ks.length:Int)<(ks.length:Int))=false:=decide_eq_false (by omega);rw[show (ks.map PZ.text).take ks.length=ks.map PZ.text by rw[List.take_of_length_le (by simp)]] at st;have HST:=ah st;clear st;go_wp2
   go_end0
   exact⟨rfl,HST.out.qM,HST.out.rQ,HST.out.kept⟩
theorem Rw (x:PZ)(hx:zi x)(B' b tb:Nat)(acc0:List UInt8)(w:World)(hb0:jO B' b acc0 w 155)(ht:w.heap[tb]?=some (.cells #[.pointer (some ⟨b,0,none⟩)] 149 (0,0)))(hB:B'≤w.heap.size) :
  Vp 260 #[.pointer (some ⟨tb,0,none⟩)] B' b w x:=by
 intro acc W am wn cm ak ck st hE hn;have hT:=st.box hb0 ht (by decide) (by decide);have hal:=aj W (.cells (aU x.op ⟨x.name.toArray⟩ ⟨x.module.toArray⟩ (decide (x.num<0)) (.slice am wn cm) x.yes (.slice ak x.kids.length ck) x.at_) 46);have hN:=heap_alloc_new W (.cells (aU x.op ⟨x.name.toArray⟩ ⟨x.module.toArray⟩ (decide (x.num<0)) (.slice am wn cm) x.yes (.slice ak x.kids.length ck) x.at_) 46);have hBW:=Nat.le_trans hB st.rQ.size;have hT1:=(hal.block tb (bG hT).1).trans hT;have s1:=(jI.start st.qM).below hal hBW;have HX:=ah (fun hl=>hx 0 B' B' b am wn cm ak ck acc (W.alloc (.cells (aU x.op ⟨x.name.toArray⟩ ⟨x.module.toArray⟩ (decide (x.num<0)) (.slice am wn cm) x.yes (.slice ak x.kids.length ck) x.at_) 46)) (hE.frame (aQ.of hal)) (Nat.le_refl _) s1.qM (Nat.le_trans hBW hal.size) hl);rw[zk] at HX;have XH:=ah (HX.out hn);show Calls _ _ #[_,_] _ _;clear hE hn hx HX st hT ht hb0;go_enter Tryz.func260,Tryz.ntmps260
 go_upto_region 1 with fail
 change Code.wp _ _ _ _ (W.alloc (.cells (aU x.op ⟨x.name.toArray⟩ ⟨x.module.toArray⟩ (decide (x.num<0)) (.slice am wn cm) x.yes (.slice ak x.kids.length ck) x.at_) 46));generalize W.alloc _=w1 at hal hN hT1 s1 XH ⊢;obtain⟨y0,y1,y2,y3,y4,y5,y6,y7⟩:=aG hN
 have yt:w1.cell? ⟨tb,0,none⟩=some (.pointer (some ⟨b,0,none⟩)):=by rw[Lib.cell_of_heap hT1];rfl
 go_wp2_with (go_at_call 206;refine XH.out.mono ?_;rintro r w3 h3;obtain rfl:=h3.eq)
 go_end0
 exact⟨rfl,h3.2.1,(hal.mono hBW).trans h3.2.2.1,(oh hal).trans h3.2.2.2⟩
theorem jI.drew {w W:World}{B' b:Nat}{acc:List UInt8}(h:jI w B' b acc W):jI w B' b acc W.drew:=⟨h.qM.drew,h.rQ.drew,h.kept.drew⟩
theorem mY {w:World}{b:Nat}{x y z u:Value}(h:w.heap[b]?=some (.cells #[x,y,z,u] 275 (0,0))):w.cell? ⟨b,0,none⟩=some x∧w.cell? ⟨b,1,none⟩=some y∧w.cell? ⟨b,2,none⟩=some z∧w.cell? ⟨b,3,none⟩=some u:=by
 refine⟨?_,?_,?_,?_⟩<;>(rw[Lib.cell_of_heap h];rfl)
theorem Vr (op:Int)(NM MD:ByteArray)(ng:Bool)(am:Option Addr)(wn cm:Nat)(ys:Bool)(ae:Option Addr)(ce:Nat)(a_:Int)(ks:List PZ)(hk:∀ x∈ks,zi x)(B B' b:Nat)(acc:List UInt8)(w:World)(hkl:ks.length≤1000000)
  (h:jH B w ae ks) (mP:B≤B') (hbd:jO B' b acc w 155) (hB:B'≤w.heap.size) (out:List UInt8) (ho:out=(if MD.data.toList=[] then [] else MD.data.toList++[46])++NM.data.toList++[40]++bg (ks.map PZ.text)++[41]) (hn:acc.length+out.length≤1099511627776) :
  Calls Tryz.prog 208 #[.pointer (some ⟨b,0,none⟩),.agg #[.int .i64 op,.string NM,.string MD,.bool ng,.slice am wn cm,.bool ys,.slice ae ks.length ce,.int .i64 a_]] w (bS B' b (acc++out) w):=by
 have hlo:=congrArg List.length ho;have HO:=ah ho;clear ho;have hal:=(aj w (.cells #[.pointer (some ⟨b,0,none⟩)] 149)).alloc (by simp) (.cells (aU op NM MD ng (.slice am wn cm) ys (.slice ae ks.length ce) a_) 46);have hT:=(Lib.alloc_old (w.alloc (.cells #[.pointer (some ⟨b,0,none⟩)] 149)) (.cells (aU op NM MD ng (.slice am wn cm) ys (.slice ae ks.length ce) a_) 46) w.heap.size (by simp)).trans (heap_alloc_new w (.cells #[.pointer (some ⟨b,0,none⟩)] 149));have hN:=heap_alloc_new (w.alloc (.cells #[.pointer (some ⟨b,0,none⟩)] 149)) (.cells (aU op NM MD ng (.slice am wn cm) ys (.slice ae ks.length ce) a_) 46);rw[World.size_alloc] at hN;have hb1:=hbd.kX hal;have vU:=hal.mono hB;have HH:=ah h;have HK:=ah hk;clear h hk hbd;go_enter Tryz.func208,Tryz.ntmps208
 go_upto_region 1 with fail
 change Code.wp _ _ _ _ ((w.alloc (.cells #[.pointer (some ⟨b,0,none⟩)] 149)).alloc (.cells (aU op NM MD ng (.slice am wn cm) ys (.slice ae ks.length ce) a_) 46));generalize (w.alloc _).alloc _=w1 at hal hN hT hb1 vU ⊢;have hB1:=Nat.le_trans hB hal.size;obtain⟨y0,y1,y2,y3,y4,y5,y6,y7⟩:=aG hN
 have yt:w1.cell? ⟨w.heap.size,0,none⟩=some (.pointer (some ⟨b,0,none⟩)):=by rw[Lib.cell_of_heap hT];rfl
 have HB1:=ah hb1;have HN:=ah hN;have HT:=ah hT
 obtain⟨md,hmd⟩:∃ md,md=if MD.data.toList=[] then [] else MD.data.toList++[46]:=⟨_,rfl⟩
 rw[← hmd] at hlo;have HMD:=ah hmd;clear hb1 hN hT hmd;simp only[bP,aK,dX,List.length_nil] at hlo
 have hle:acc.length+md.length+NM.size+1+(bg (ks.map PZ.text)).length+1≤1099511627776:=by omega
 clear hlo hn
 go_upto_if 6 with fail
 generalize ht:(!MD.toList.isEmpty)=t;rw[(yX MD).1] at ht
 go_cut [6] (fun s wc=>jI w1 B' b (acc++md) wc)
 case first =>
  by_cases hm:MD.data.toList=[]
  ·rw[decide_eq_true hm] at ht
   obtain rfl:t=false:=ht.symm
   have adT:md=[]:=by rw[HMD.out,if_pos hm]
   subst adT;clear hm;go_wp2
   go_meet
   rw[List.append_nil];exact jI.start HB1.out
  ·rw[decide_eq_false hm] at ht
   obtain rfl:t=true:=ht.symm;have Tn:Hid (md=MD.data.toList++[46]):=ah (by rw[HMD.out,if_neg hm]);have hml:=congrArg List.length Tn.out;simp only[bP,aK,dX,List.length_nil] at hml
   have afl:MD.size+1≤md.length:=by omega
   clear hm hml;go_wp2_with (go_at_call 128;refine(zh MD ⟨#[46]⟩ B' b acc w1 HB1.out hB1 (by show acc.length+MD.size+1≤_;omega)).mono ?_;rintro r w2 h2;obtain rfl:=h2.eq)
   go_meet
   rw[Tn.out];exact(jI.start HB1.out).write h2
 case rest =>
  obtain⟨wo,rfl⟩:∃ wo:World,wo=wc:=⟨_,rfl⟩
  have hzo:=hcut.rQ.size;clear y0 y1 y2 y3 y4 y5 y6 y7 yt ht;obtain⟨y0,y1,y2,y3,y4,y5,y6,y7⟩:=aG (hcut.box HB1.out HN.out (by decide) (by decide))
  have yt:wo.cell? ⟨w.heap.size,0,none⟩=some (.pointer (some ⟨b,0,none⟩)):=by rw[Lib.cell_of_heap (hcut.box HB1.out HT.out (by decide) (by decide))];rfl
  go_upto_region 4 with (go_at_call 128;refine(zh NM ⟨#[40]⟩ B' b (acc++md) wo hcut.qM (by omega) (by show (acc++md).length+NM.size+1≤_;rw[bP];omega)).mono ?_;rintro r w2 h2;obtain rfl:=h2.eq)
  have s2:=hcut.write h2;have hz2:=s2.rQ.size;clear y0 y1 y2 y3 y4 y5 y6 y7 yt h2 hcut;have T2:=s2.box HB1.out HT.out (by decide) (by decide);obtain⟨y0,y1,y2,y3,y4,y5,y6,y7⟩:=aG (s2.box HB1.out HN.out (by decide) (by decide))
  have yt:w2.cell? ⟨w.heap.size,0,none⟩=some (.pointer (some ⟨b,0,none⟩)):=by rw[Lib.cell_of_heap T2];rfl
  have HL:=ah (Vq 260 #[.pointer (some ⟨w.heap.size,0,none⟩)] (enters_of Tryz.func260 (by kernel_rfl) rfl) ks B B' b ae ce (acc++md++(NM.data.toList++[40])) w2 (fun x hx=>Rw x (HK.out x hx) B' b w.heap.size _ w2 s2.qM T2 (by omega)) (fun h0=>by
   obtain⟨kb,off,q1,q2,q3,q4⟩:=HH.out h0;have hb2:=(vU.trans s2.rQ).mono mP;refine⟨kb,off,q1,q2,Nat.lt_of_lt_of_le q3 hb2.size,fun i hi=>?_⟩;obtain⟨BU,wn',BX,xM,xO,q5,q6⟩:=q4 i hi
   exact⟨BU,wn',BX,xM,xO,q5.frame (aQ.sI hb2 fun b hb=>hb),fun j u hu=>(hb2.cell (p:=⟨kb,off+i * 8+j,none⟩) q2).trans (q6 j u hu)⟩) mP s2.qM (by omega) (by simp only[bP,aK,dX,List.length_nil];omega) hkl)
  go_upto_region 5 with (go_at_call 259;refine HL.out.mono ?_;rintro r w3 h3;obtain rfl:=h3.eq)
  have s3:=s2.write h3;have hz3:=s3.rQ.size;clear y0 y1 y2 y3 y4 y5 y6 y7 yt h3 s2 HL T2
  have yt:w3.cell? ⟨w.heap.size,0,none⟩=some (.pointer (some ⟨b,0,none⟩)):=by rw[Lib.cell_of_heap (s3.box HB1.out HT.out (by decide) (by decide))];rfl
  go_wp2_with (go_at_call 128;refine(iN ⟨#[41]⟩ B' b _ w3 s3.qM (by omega) (by show List.length _+1≤_;simp only[bP,aK,dX,List.length_nil];omega)).mono ?_;rintro r w4 h4;obtain rfl:=h4.eq)
  go_end0
  have:=bS.from hal hB (s3.write h4)
  rw[HO.out,← HMD.out]
  simpa [List.append_assoc] using this
theorem acA {op:Int}(h1:7≤op)(h2:op≤20):(op == 1)=false∧(op == 2)=false∧(op == 3)=false∧(op == 4)=false∧(op == 5)=false∧(op == 6)=false∧(op == 21)=false∧(op == 22)=false∧(op == 23)=false∧(op == 24)=false:=by
 refine⟨?_,?_,?_,?_,?_,?_,?_,?_,?_,?_⟩<;>exact beq_eq_false_iff_ne.2 (by omega)
theorem Rx {op:Int}(h1:7≤op)(h2:op≤20)(nm md:List UInt8)(num:Int)(yes:Bool)(ks:List (Int × List UInt8)):lF op nm md num yes ks=oJ (sD op) (ks.getD 0 (0,[]))++[32]++qg op++[32]++oJ (wU op) (ks.getD 1 (0,[])):=by
 have e1:∀ k:Int,(k≤6∨21≤k)→¬ op=k:=fun k hk q=>by omega
 unfold lF;rw[if_neg (e1 1 (by omega)),if_neg (e1 2 (by omega)),if_neg (e1 3 (by omega)),if_neg (e1 4 (by omega)),if_neg (e1 5 (by omega)),if_neg (e1 6 (by omega)),if_neg (e1 21 (by omega)),if_neg (e1 22 (by omega)),if_neg (e1 23 (by omega)),if_neg (e1 24 (by omega))]
structure zZ (e:PZ) (B B' b:Nat) (am:Option Addr) (wn cm:Nat) (ae:Option Addr) (ce:Nat) (acc:List UInt8) (w:World):Prop where
 kids:jH B w ae e.kids
 does:∀ x∈e.kids,zi x
 mP:B≤B'
 qM:jO B' b acc w 155
 hB:B'≤w.heap.size
 len:acc.length+e.text.length≤1099511627776
 num:kN (fun k=>k<B) w e.num (.slice am wn cm)
 big:e.num.natAbs<10 ^ 60
 few:e.kids.length≤65536
theorem Ny {e:PZ}{B B' b:Nat}{am:Option Addr}{wn cm:Nat}{ae:Option Addr}{ce:Nat}{acc:List UInt8}{w:World}(E:zZ e B B' b am wn cm ae ce acc w)(h1:1≤e.op)(h4:e.op≤4) :
  Calls Tryz.prog 129 #[.pointer (some ⟨b,0,none⟩),.agg #[.int .i64 e.op,.string ⟨e.name.toArray⟩,.string ⟨e.module.toArray⟩,.bool (decide (e.num<0)),.slice am wn cm,.bool e.yes,.slice ae e.kids.length ce,.int .i64 e.at_]] w (bS B' b (acc++e.text) w):=by
 have hal:=aj w (.cells (aU e.op ⟨e.name.toArray⟩ ⟨e.module.toArray⟩ (decide (e.num<0)) (.slice am wn cm) e.yes (.slice ae e.kids.length ce) e.at_) 46);have hN:=heap_alloc_new w (.cells (aU e.op ⟨e.name.toArray⟩ ⟨e.module.toArray⟩ (decide (e.num<0)) (.slice am wn cm) e.yes (.slice ae e.kids.length ce) e.at_) 46);have hb1:=E.qM.kX hal;have hB:=E.hB;have hln:=E.len;have HST:=ah (fun W (hW:Below w.heap.size w W)=>Kk (fun k=>k<B) am wn cm e.num W (XA.frame E.num (aQ.of hW)) E.big);have htd:=e.mJ;clear E;generalize e.text=out at *;obtain⟨TX,hTX,eT⟩:=je (iW e.num);rw[show iW e.num=TX.data.toList from hTX.symm] at HST
 have HST:Hid (∀ W,Below w.heap.size w W→Calls Tryz.prog 71 #[.agg #[.bool (decide (e.num<0)),.slice am wn cm]] W fun r w'=>r=.returned (.string TX)∧Below W.heap.size W w'):=ah fun W hW=>(HST.out W hW).mono fun r w' q=>⟨by rw[q.1],q.2⟩
 have LP:=ah hTX;have Vs:=ah htd;clear hTX eT htd;generalize hop:e.op=op at *;have HB1:=ah hb1;have HN:=ah hN;clear hb1 hN
 have:op=1∨op=2∨op=3∨op=4:=by omega
 have key:∀ (S:ByteArray) (W:World),out=S.data.toList→Below w.heap.size w W→jO B' b acc W 155→Calls Tryz.prog 128 #[.pointer (some ⟨b,0,none⟩),.slice (some ⟨W.heap.size,0,none⟩) 1 1] (W.alloc (.cells #[.string S] 9)) fun r w'=>r=.returned (.tuple #[])∧bS B' b (acc++out) w (.returned (.tuple #[])) w':=fun S W hS hW hb =>
  (iN S B' b acc W hb (Nat.le_trans hB hW.size) (by rw[← aK,← hS];exact hln)).mono fun r w' q=>⟨q.1,rfl,by rw[hS];exact q.2.1,(hW.mono hB).trans q.2.2.1,(oh hW).trans q.2.2.2⟩
 have HK:=ah key;clear key hop hln h1 h4
 rcases this with rfl|rfl|rfl|rfl
 ·have HO:Hid (out=TX.data.toList):=ah (by rw[Vs.out];exact LP.out.symm)
  go_enter Tryz.func129,Tryz.ntmps129
  go_upto_region 1 with fail
  change Code.wp _ _ _ _ (w.alloc (.cells (aU 1 ⟨e.name.toArray⟩ ⟨e.module.toArray⟩ (decide (e.num<0)) (.slice am wn cm) e.yes (.slice ae e.kids.length ce) e.at_) 46));generalize w.alloc _=w1 at hal HN HB1 ⊢;obtain⟨y0,y1,y2,y3,y4,y5,y6,y7⟩:=aG HN.out;go_wp2_with (first|(go_at_call 71;refine(HST.out _ hal).mono ?_;rintro r w2 ⟨rfl,hb2⟩)|(go_at_call 128;refine(HK.out TX w2 HO.out (hal.trans (hb2.mono hal.size)) (HB1.out.kX hb2)).mono ?_;rintro r w3 ⟨rfl,h3⟩))
  go_end0
  exact h3
 ·cases hy:e.yes with
  | true =>
   have HO:Hid (out=(ByteArray.mk #[116,114,117,101]).data.toList):=ah (by rw[Vs.out,hy];rfl);rw[hy] at HN HB1 hal;clear hy;go_enter Tryz.func129,Tryz.ntmps129
   go_upto_region 1 with fail
   change Code.wp _ _ _ _ (w.alloc (.cells (aU 2 ⟨e.name.toArray⟩ ⟨e.module.toArray⟩ (decide (e.num<0)) (.slice am wn cm) true (.slice ae e.kids.length ce) e.at_) 46));generalize w.alloc _=w1 at hal HN HB1 ⊢;obtain⟨y0,y1,y2,y3,y4,y5,y6,y7⟩:=aG HN.out;go_wp2_with (go_at_call 128;refine(HK.out _ w1 HO.out hal HB1.out).mono ?_;rintro r w3 ⟨rfl,h3⟩)
   go_end0
   exact h3
  | false =>
   have HO:Hid (out=(ByteArray.mk #[102,97,108,115,101]).data.toList):=ah (by rw[Vs.out,hy];rfl);rw[hy] at HN HB1 hal;clear hy;go_enter Tryz.func129,Tryz.ntmps129
   go_upto_region 1 with fail
   change Code.wp _ _ _ _ (w.alloc (.cells (aU 2 ⟨e.name.toArray⟩ ⟨e.module.toArray⟩ (decide (e.num<0)) (.slice am wn cm) false (.slice ae e.kids.length ce) e.at_) 46));generalize w.alloc _=w1 at hal HN HB1 ⊢;obtain⟨y0,y1,y2,y3,y4,y5,y6,y7⟩:=aG HN.out;go_wp2_with (go_at_call 128;refine(HK.out _ w1 HO.out hal HB1.out).mono ?_;rintro r w3 ⟨rfl,h3⟩)
   go_end0
   exact h3
 ·have HO:Hid (out=(ByteArray.mk e.name.toArray).data.toList):=ah (by rw[Vs.out];rfl)
  go_enter Tryz.func129,Tryz.ntmps129
  go_upto_region 1 with fail
  change Code.wp _ _ _ _ (w.alloc (.cells (aU 3 ⟨e.name.toArray⟩ ⟨e.module.toArray⟩ (decide (e.num<0)) (.slice am wn cm) e.yes (.slice ae e.kids.length ce) e.at_) 46));generalize w.alloc _=w1 at hal HN HB1 ⊢;obtain⟨y0,y1,y2,y3,y4,y5,y6,y7⟩:=aG HN.out;go_wp2_with (go_at_call 128;refine(HK.out _ w1 HO.out hal HB1.out).mono ?_;rintro r w3 ⟨rfl,h3⟩)
  go_end0
  exact h3
 ·have HO:Hid (out=(ByteArray.mk #[114,101,115]).data.toList):=ah (by rw[Vs.out];rfl)
  go_enter Tryz.func129,Tryz.ntmps129
  go_upto_region 1 with fail
  change Code.wp _ _ _ _ (w.alloc (.cells (aU 4 ⟨e.name.toArray⟩ ⟨e.module.toArray⟩ (decide (e.num<0)) (.slice am wn cm) e.yes (.slice ae e.kids.length ce) e.at_) 46));generalize w.alloc _=w1 at hal HN HB1 ⊢;obtain⟨y0,y1,y2,y3,y4,y5,y6,y7⟩:=aG HN.out;go_wp2_with (go_at_call 128;refine(HK.out _ w1 HO.out hal HB1.out).mono ?_;rintro r w3 ⟨rfl,h3⟩)
  go_end0
  exact h3
theorem Ry {e:PZ}{B B' b:Nat}{am:Option Addr}{wn cm:Nat}{ae:Option Addr}{ce:Nat}{acc:List UInt8}{w:World}(E:zZ e B B' b am wn cm ae ce acc w)(hop:e.op=5∨e.op=6)(hkn:e.kids.length=1) :
  Calls Tryz.prog 129 #[.pointer (some ⟨b,0,none⟩),.agg #[.int .i64 e.op,.string ⟨e.name.toArray⟩,.string ⟨e.module.toArray⟩,.bool (decide (e.num<0)),.slice am wn cm,.bool e.yes,.slice ae e.kids.length ce,.int .i64 e.at_]] w (bS B' b (acc++e.text) w):=by
 have hal:=aj w (.cells (aU e.op ⟨e.name.toArray⟩ ⟨e.module.toArray⟩ (decide (e.num<0)) (.slice am wn cm) e.yes (.slice ae e.kids.length ce) e.at_) 46);have hN:=heap_alloc_new w (.cells (aU e.op ⟨e.name.toArray⟩ ⟨e.module.toArray⟩ (decide (e.num<0)) (.slice am wn cm) e.yes (.slice ae e.kids.length ce) e.at_) 46);have hb1:=E.qM.kX hal;have hB:=E.hB;have mP:=E.mP;have hln:=E.len;have HD:=ah E.does;have HK:=ah E.kids;have vU:=hal.mono hB;have Ev:=E.few;have htd:=e.mJ
 have hgt:∀ i,(h:i<e.kids.length)→(gJ e.kids).getD i (0,[])=(e.kids[i].op,e.kids[i].text):=fun i h=>jY h
 clear E;have h0:=hgt 0 (by omega);have HD0:=ah (HD.out _ (List.getElem_mem (by omega:0<e.kids.length)));have Z6:=ah (fun W hW=>HK.out.at (W:=W) hW (by omega:0<e.kids.length))
 have acB:e.op=5→e.text=([45]:List UInt8)++oJ 9 (e.kids[0].op,e.kids[0].text):=fun q=>by rw[htd,q,← h0];rfl
 have acC:e.op=6→e.text=([110,111,116,32]:List UInt8)++oJ 4 (e.kids[0].op,e.kids[0].text):=fun q=>by rw[htd,q,← h0];rfl
 have H5:=ah acB;have H6:=ah acC;clear htd acB acC hgt h0 HD HK;generalize e.kids[0]=x at *;generalize e.text=out at *
 have nJ:(0:Int)<(e.kids.length:Int):=by omega
 have Kz:0<e.kids.length:=by omega
 generalize hop':e.op=op at *;generalize e.kids.length=nk at *;have HB1:=ah hb1;have HN:=ah hN;clear hb1 hN hop' hkn
 rcases hop with rfl|rfl
 ·have HO:=ah (H5.out rfl)
  clear H5 H6
  have hl2:acc.length+1+(oJ 9 (x.op,x.text)).length≤1099511627776:=by
   have:=congrArg List.length HO.out;simp only[bP,dX,List.length_nil] at this;omega
  clear hln;go_enter Tryz.func129,Tryz.ntmps129
  go_upto_region 1 with fail
  change Code.wp _ _ _ _ (w.alloc (.cells (aU 5 ⟨e.name.toArray⟩ ⟨e.module.toArray⟩ (decide (e.num<0)) (.slice am wn cm) e.yes (.slice ae nk ce) e.at_) 46));generalize w.alloc _=w1 at hal HN HB1 vU ⊢;have hB1:=Nat.le_trans hB hal.size;obtain⟨y0,y1,y2,y3,y4,y5,y6,y7⟩:=aG HN.out
  go_upto_region 18 with (go_at_call 128;refine(iN ⟨#[45]⟩ B' b acc w1 HB1.out hB1 (by show acc.length+1≤_;omega)).mono ?_;rintro r w2 h2;obtain rfl:=h2.eq)
  have s2:=(jI.start HB1.out).write h2;have hz2:=s2.rQ.size;clear y0 y1 y2 y3 y4 y5 y6 y7 h2;obtain⟨-,-,-,-,-,-,y6,-⟩:=aG (s2.box HB1.out HN.out (by decide) (by decide));obtain⟨kb,off,FP,FQ,FR,IY,ck1,rfl,hkB,hE,x0,x1,x2,x3,x4,x5,x6,x7⟩:=Z6.out w2 ((vU.trans s2.rQ).mono mP);simp only[Nat.zero_mul,Nat.add_zero] at x0 x1 x2 x3 x4 x5 x6 x7;have HC:=ah (HD0.out 9 B B' b FP FQ FR IY ck1 _ w2 hE mP s2.qM (by omega) (by show (acc++([45]:List UInt8)).length+_≤_;simp only[bP,dX,List.length_nil];omega));have HS:=ah s2;clear hE Z6 HD0 s2;go_wp2_with (go_at_call 206;refine HC.out.mono ?_;rintro r w3 h3;obtain rfl:=h3.eq)
  go_end0
  have:=bS.from hal hB (HS.out.write h3)
  rw[HO.out]
  simpa [List.append_assoc] using this
 ·have HO:=ah (H6.out rfl)
  clear H5 H6
  have hl2:acc.length+4+(oJ 4 (x.op,x.text)).length≤1099511627776:=by
   have:=congrArg List.length HO.out;simp only[bP,dX,List.length_nil] at this;omega
  clear hln;go_enter Tryz.func129,Tryz.ntmps129
  go_upto_region 1 with fail
  change Code.wp _ _ _ _ (w.alloc (.cells (aU 6 ⟨e.name.toArray⟩ ⟨e.module.toArray⟩ (decide (e.num<0)) (.slice am wn cm) e.yes (.slice ae nk ce) e.at_) 46));generalize w.alloc _=w1 at hal HN HB1 vU ⊢;have hB1:=Nat.le_trans hB hal.size;obtain⟨y0,y1,y2,y3,y4,y5,y6,y7⟩:=aG HN.out
  go_upto_region 21 with (go_at_call 128;refine(iN ⟨#[110,111,116,32]⟩ B' b acc w1 HB1.out hB1 (by show acc.length+4≤_;omega)).mono ?_;rintro r w2 h2;obtain rfl:=h2.eq)
  have s2:=(jI.start HB1.out).write h2;have hz2:=s2.rQ.size;clear y0 y1 y2 y3 y4 y5 y6 y7 h2;obtain⟨-,-,-,-,-,-,y6,-⟩:=aG (s2.box HB1.out HN.out (by decide) (by decide));obtain⟨kb,off,FP,FQ,FR,IY,ck1,rfl,hkB,hE,x0,x1,x2,x3,x4,x5,x6,x7⟩:=Z6.out w2 ((vU.trans s2.rQ).mono mP);simp only[Nat.zero_mul,Nat.add_zero] at x0 x1 x2 x3 x4 x5 x6 x7;have HC:=ah (HD0.out 4 B B' b FP FQ FR IY ck1 _ w2 hE mP s2.qM (by omega) (by show (acc++([110,111,116,32]:List UInt8)).length+_≤_;simp only[bP,dX,List.length_nil];omega));have HS:=ah s2;clear hE Z6 HD0 s2;go_wp2_with (go_at_call 206;refine HC.out.mono ?_;rintro r w3 h3;obtain rfl:=h3.eq)
  go_end0
  have:=bS.from hal hB (HS.out.write h3)
  rw[HO.out]
  simpa [List.append_assoc] using this
theorem Rz {e:PZ}{B B' b:Nat}{am:Option Addr}{wn cm:Nat}{ae:Option Addr}{ce:Nat}{acc:List UInt8}{w:World}(E:zZ e B B' b am wn cm ae ce acc w)(hop:e.op=21)(hkn:e.kids.length=3) :
  Calls Tryz.prog 129 #[.pointer (some ⟨b,0,none⟩),.agg #[.int .i64 e.op,.string ⟨e.name.toArray⟩,.string ⟨e.module.toArray⟩,.bool (decide (e.num<0)),.slice am wn cm,.bool e.yes,.slice ae e.kids.length ce,.int .i64 e.at_]] w (bS B' b (acc++e.text) w):=by
 have hal:=aj w (.cells (aU e.op ⟨e.name.toArray⟩ ⟨e.module.toArray⟩ (decide (e.num<0)) (.slice am wn cm) e.yes (.slice ae e.kids.length ce) e.at_) 46);have hN:=heap_alloc_new w (.cells (aU e.op ⟨e.name.toArray⟩ ⟨e.module.toArray⟩ (decide (e.num<0)) (.slice am wn cm) e.yes (.slice ae e.kids.length ce) e.at_) 46);have hb1:=E.qM.kX hal;have hB:=E.hB;have mP:=E.mP;have hln:=E.len;have HD:=ah E.does;have HK:=ah E.kids;have vU:=hal.mono hB;have Ev:=E.few;have htd:=e.mJ
 have hgt:∀ i,(h:i<e.kids.length)→(gJ e.kids).getD i (0,[])=(e.kids[i].op,e.kids[i].text):=fun i h=>jY h
 clear E
 have hks:∃ l,e.kids=l∧l.length=3:=⟨_,rfl,hkn⟩
 obtain⟨l,hl,hll⟩:=hks
 have htx:e.text=bK [⟨#[105,102,32]⟩,⟨#[32,116,104,101,110,32]⟩,⟨#[32,101,108,115,101,32]⟩] e.kids:=by
  rw[htd,hop,hl]
  match l,hll with
  | [a,b,c],_=>simp[lF,bK,gJ]
 have LP:=ah htx
 have hl2:acc.length+(bK [⟨#[105,102,32]⟩,⟨#[32,116,104,101,110,32]⟩,⟨#[32,101,108,115,101,32]⟩] e.kids).length≤1099511627776:=by rw[← htx];exact hln
 clear htd hgt hl hll htx hln;generalize e.text=out at *
 have z8:([⟨#[105,102,32]⟩,⟨#[32,116,104,101,110,32]⟩,⟨#[32,101,108,115,101,32]⟩]:List ByteArray).length≤e.kids.length:=by rw[hkn];decide
 have hP:=fun (acc':List UInt8) (W:World) (sb:Nat) (hW:Below B' w W) (hb:jO B' b acc' W 155) (hs:W.heap[sb]?=some (.cells #[.string ⟨#[105,102,32]⟩,.string ⟨#[32,116,104,101,110,32]⟩,.string ⟨#[32,101,108,115,101,32]⟩] 9 (0,0))) (Vt:acc'.length+(bK [⟨#[105,102,32]⟩,⟨#[32,116,104,101,110,32]⟩,⟨#[32,101,108,115,101,32]⟩] e.kids).length≤1099511627776)=>zl 21 ⟨e.name.toArray⟩ ⟨e.module.toArray⟩ (decide (e.num<0)) am wn cm e.yes ae ce e.at_ e.kids [⟨#[105,102,32]⟩,⟨#[32,116,104,101,110,32]⟩,⟨#[32,101,108,115,101,32]⟩] z8 (by decide) HD.out B B' b sb 3 (0,0) acc' W (fun h0=>by
  obtain⟨kb,off,q1,q2,q3,q4⟩:=HK.out h0;have hb2:=hW.mono mP;refine⟨kb,off,q1,q2,Nat.lt_of_lt_of_le q3 hb2.size,fun i hi=>?_⟩;obtain⟨BU,wn',BX,xM,xO,q5,q6⟩:=q4 i hi
  exact⟨BU,wn',BX,xM,xO,q5.frame (aQ.sI hb2 fun b hb=>hb),fun j u hu=>(hb2.cell (p:=⟨kb,off+i * 8+j,none⟩) q2).trans (q6 j u hu)⟩) mP hb hs (Nat.le_trans hB hW.size) Vt
 have HP:=ah hP;clear hP HD HK z8 hkn;generalize bK [⟨#[105,102,32]⟩,⟨#[32,116,104,101,110,32]⟩,⟨#[32,101,108,115,101,32]⟩] e.kids=acD at *;generalize hop':e.op=op at *;subst hop;have HB1:=ah hb1;have HN:=ah hN;clear hb1 hN hop';go_enter Tryz.func129,Tryz.ntmps129
 go_upto_region 1 with fail
 change Code.wp _ _ _ _ (w.alloc (.cells (aU 21 ⟨e.name.toArray⟩ ⟨e.module.toArray⟩ (decide (e.num<0)) (.slice am wn cm) e.yes (.slice ae e.kids.length ce) e.at_) 46));generalize w.alloc _=w1 at hal HN HB1 vU ⊢;have hB1:=Nat.le_trans hB hal.size;obtain⟨y0,y1,y2,y3,y4,y5,y6,y7⟩:=aG HN.out;have bq:=aj w1 (.cells #[.string ⟨#[105,102,32]⟩,.string ⟨#[32,116,104,101,110,32]⟩,.string ⟨#[32,101,108,115,101,32]⟩] 9);have HP1:=ah (HP.out acc (w1.alloc (.cells #[.string ⟨#[105,102,32]⟩,.string ⟨#[32,116,104,101,110,32]⟩,.string ⟨#[32,101,108,115,101,32]⟩] 9)) w1.heap.size (vU.alloc hB1 _) (HB1.out.kX bq) (heap_alloc_new w1 _) hl2);go_wp2_with (go_at_call 207;refine HP1.out.mono ?_;rintro r w3 h3;obtain rfl:=h3.eq)
 go_end0
 rw[LP.out]
 exact bS.from hal hB (((jI.start HB1.out).below bq hB1).write h3)
theorem Nz {e:PZ}{B B' b:Nat}{am:Option Addr}{wn cm:Nat}{ae:Option Addr}{ce:Nat}{acc:List UInt8}{w:World}(E:zZ e B B' b am wn cm ae ce acc w)(hop:e.op=23)(hkn:e.kids.length=2) :
  Calls Tryz.prog 129 #[.pointer (some ⟨b,0,none⟩),.agg #[.int .i64 e.op,.string ⟨e.name.toArray⟩,.string ⟨e.module.toArray⟩,.bool (decide (e.num<0)),.slice am wn cm,.bool e.yes,.slice ae e.kids.length ce,.int .i64 e.at_]] w (bS B' b (acc++e.text) w):=by
 have hal:=aj w (.cells (aU e.op ⟨e.name.toArray⟩ ⟨e.module.toArray⟩ (decide (e.num<0)) (.slice am wn cm) e.yes (.slice ae e.kids.length ce) e.at_) 46);have hN:=heap_alloc_new w (.cells (aU e.op ⟨e.name.toArray⟩ ⟨e.module.toArray⟩ (decide (e.num<0)) (.slice am wn cm) e.yes (.slice ae e.kids.length ce) e.at_) 46);have hb1:=E.qM.kX hal;have hB:=E.hB;have mP:=E.mP;have hln:=E.len;have HD:=ah E.does;have HK:=ah E.kids;have vU:=hal.mono hB;have Ev:=E.few;have htd:=e.mJ
 have hgt:∀ i,(h:i<e.kids.length)→(gJ e.kids).getD i (0,[])=(e.kids[i].op,e.kids[i].text):=fun i h=>jY h
 clear E
 have hks:∃ l,e.kids=l∧l.length=2:=⟨_,rfl,hkn⟩
 obtain⟨l,hl,hll⟩:=hks
 have htx:e.text=bK [⟨#[97,115,115,101,114,116,32]⟩,⟨#[32,105,110,32]⟩] e.kids:=by
  rw[htd,hop,hl]
  match l,hll with
  | [a,b],_=>simp[lF,bK,gJ]
 have LP:=ah htx
 have hl2:acc.length+(bK [⟨#[97,115,115,101,114,116,32]⟩,⟨#[32,105,110,32]⟩] e.kids).length≤1099511627776:=by rw[← htx];exact hln
 clear htd hgt hl hll htx hln;generalize e.text=out at *
 have z8:([⟨#[97,115,115,101,114,116,32]⟩,⟨#[32,105,110,32]⟩]:List ByteArray).length≤e.kids.length:=by rw[hkn];decide
 have hP:=fun (acc':List UInt8) (W:World) (sb:Nat) (hW:Below B' w W) (hb:jO B' b acc' W 155) (hs:W.heap[sb]?=some (.cells #[.string ⟨#[97,115,115,101,114,116,32]⟩,.string ⟨#[32,105,110,32]⟩] 9 (0,0))) (Vt:acc'.length+(bK [⟨#[97,115,115,101,114,116,32]⟩,⟨#[32,105,110,32]⟩] e.kids).length≤1099511627776)=>zl 23 ⟨e.name.toArray⟩ ⟨e.module.toArray⟩ (decide (e.num<0)) am wn cm e.yes ae ce e.at_ e.kids [⟨#[97,115,115,101,114,116,32]⟩,⟨#[32,105,110,32]⟩] z8 (by decide) HD.out B B' b sb 2 (0,0) acc' W (fun h0=>by
  obtain⟨kb,off,q1,q2,q3,q4⟩:=HK.out h0;have hb2:=hW.mono mP;refine⟨kb,off,q1,q2,Nat.lt_of_lt_of_le q3 hb2.size,fun i hi=>?_⟩;obtain⟨BU,wn',BX,xM,xO,q5,q6⟩:=q4 i hi
  exact⟨BU,wn',BX,xM,xO,q5.frame (aQ.sI hb2 fun b hb=>hb),fun j u hu=>(hb2.cell (p:=⟨kb,off+i * 8+j,none⟩) q2).trans (q6 j u hu)⟩) mP hb hs (Nat.le_trans hB hW.size) Vt
 have HP:=ah hP;clear hP HD HK z8 hkn;generalize bK [⟨#[97,115,115,101,114,116,32]⟩,⟨#[32,105,110,32]⟩] e.kids=acD at *;generalize hop':e.op=op at *;subst hop;have HB1:=ah hb1;have HN:=ah hN;clear hb1 hN hop';go_enter Tryz.func129,Tryz.ntmps129
 go_upto_region 1 with fail
 change Code.wp _ _ _ _ (w.alloc (.cells (aU 23 ⟨e.name.toArray⟩ ⟨e.module.toArray⟩ (decide (e.num<0)) (.slice am wn cm) e.yes (.slice ae e.kids.length ce) e.at_) 46));generalize w.alloc _=w1 at hal HN HB1 vU ⊢;have hB1:=Nat.le_trans hB hal.size;obtain⟨y0,y1,y2,y3,y4,y5,y6,y7⟩:=aG HN.out;have bq:=aj w1 (.cells #[.string ⟨#[97,115,115,101,114,116,32]⟩,.string ⟨#[32,105,110,32]⟩] 9);have HP1:=ah (HP.out acc (w1.alloc (.cells #[.string ⟨#[97,115,115,101,114,116,32]⟩,.string ⟨#[32,105,110,32]⟩] 9)) w1.heap.size (vU.alloc hB1 _) (HB1.out.kX bq) (heap_alloc_new w1 _) hl2);go_wp2_with (go_at_call 207;refine HP1.out.mono ?_;rintro r w3 h3;obtain rfl:=h3.eq)
 go_end0
 rw[LP.out]
 exact bS.from hal hB (((jI.start HB1.out).below bq hB1).write h3)
theorem NA {e:PZ}{B B' b:Nat}{am:Option Addr}{wn cm:Nat}{ae:Option Addr}{ce:Nat}{acc:List UInt8}{w:World}(E:zZ e B B' b am wn cm ae ce acc w)(hop:e.op=22)(hkn:e.kids.length=2)(hnl:e.name.length≤65536) :
  Calls Tryz.prog 129 #[.pointer (some ⟨b,0,none⟩),.agg #[.int .i64 e.op,.string ⟨e.name.toArray⟩,.string ⟨e.module.toArray⟩,.bool (decide (e.num<0)),.slice am wn cm,.bool e.yes,.slice ae e.kids.length ce,.int .i64 e.at_]] w (bS B' b (acc++e.text) w):=by
 have hal:=aj w (.cells (aU e.op ⟨e.name.toArray⟩ ⟨e.module.toArray⟩ (decide (e.num<0)) (.slice am wn cm) e.yes (.slice ae e.kids.length ce) e.at_) 46);have hN:=heap_alloc_new w (.cells (aU e.op ⟨e.name.toArray⟩ ⟨e.module.toArray⟩ (decide (e.num<0)) (.slice am wn cm) e.yes (.slice ae e.kids.length ce) e.at_) 46);have hb1:=E.qM.kX hal;have hB:=E.hB;have mP:=E.mP;have hln:=E.len;have HD:=ah E.does;have HK:=ah E.kids;have vU:=hal.mono hB;have Ev:=E.few;have htd:=e.mJ
 have hgt:∀ i,(h:i<e.kids.length)→(gJ e.kids).getD i (0,[])=(e.kids[i].op,e.kids[i].text):=fun i h=>jY h
 clear E
 have hks:∃ l,e.kids=l∧l.length=2:=⟨_,rfl,hkn⟩
 obtain⟨l,hl,hll⟩:=hks
 have htx:e.text=([108,101,116,32]:List UInt8)++e.name++bK [⟨#[32,61,32]⟩,⟨#[32,105,110,32]⟩] e.kids:=by
  rw[htd,hop,hl]
  match l,hll with
  | [a,b],_=>simp[lF,bK,gJ]
 have LP:=ah htx
 have hl2:acc.length+4+e.name.length+(bK [⟨#[32,61,32]⟩,⟨#[32,105,110,32]⟩] e.kids).length≤1099511627776:=by
  rw[htx] at hln;simp only[bP,dX,List.length_nil] at hln;omega
 clear htd hgt hl hll htx hln;generalize e.text=out at *
 have z8:([⟨#[32,61,32]⟩,⟨#[32,105,110,32]⟩]:List ByteArray).length≤e.kids.length:=by rw[hkn];decide
 have hP:=fun (acc':List UInt8) (W:World) (sb:Nat) (hW:Below B' w W) (hb:jO B' b acc' W 155) (hs:W.heap[sb]?=some (.cells #[.string ⟨#[32,61,32]⟩,.string ⟨#[32,105,110,32]⟩] 9 (0,0))) (Vt:acc'.length+(bK [⟨#[32,61,32]⟩,⟨#[32,105,110,32]⟩] e.kids).length≤1099511627776)=>zl 22 ⟨e.name.toArray⟩ ⟨e.module.toArray⟩ (decide (e.num<0)) am wn cm e.yes ae ce e.at_ e.kids [⟨#[32,61,32]⟩,⟨#[32,105,110,32]⟩] z8 (by decide) HD.out B B' b sb 2 (0,0) acc' W (fun h0=>by
  obtain⟨kb,off,q1,q2,q3,q4⟩:=HK.out h0;have hb2:=hW.mono mP;refine⟨kb,off,q1,q2,Nat.lt_of_lt_of_le q3 hb2.size,fun i hi=>?_⟩;obtain⟨BU,wn',BX,xM,xO,q5,q6⟩:=q4 i hi
  exact⟨BU,wn',BX,xM,xO,q5.frame (aQ.sI hb2 fun b hb=>hb),fun j u hu=>(hb2.cell (p:=⟨kb,off+i * 8+j,none⟩) q2).trans (q6 j u hu)⟩) mP hb hs (Nat.le_trans hB hW.size) Vt
 have HP:=ah hP;clear hP HD HK z8 hkn;generalize bK [⟨#[32,61,32]⟩,⟨#[32,105,110,32]⟩] e.kids=acD at *;generalize hop':e.op=op at *;subst hop;have HB1:=ah hb1;have HN:=ah hN;clear hb1 hN hop';go_enter Tryz.func129,Tryz.ntmps129
 go_upto_region 1 with fail
 change Code.wp _ _ _ _ (w.alloc (.cells (aU 22 ⟨e.name.toArray⟩ ⟨e.module.toArray⟩ (decide (e.num<0)) (.slice am wn cm) e.yes (.slice ae e.kids.length ce) e.at_) 46));generalize w.alloc _=w1 at hal HN HB1 vU ⊢;have hB1:=Nat.le_trans hB hal.size;obtain⟨y0,y1,y2,y3,y4,y5,y6,y7⟩:=aG HN.out
 go_upto_region 26 with (go_at_call 128;refine(zh ⟨#[108,101,116,32]⟩ ⟨e.name.toArray⟩ B' b acc w1 HB1.out hB1 (by show acc.length+4+e.name.toArray.size≤_;simp;omega)).mono ?_;rintro r w2 h2;obtain rfl:=h2.eq)
 have s2:=(jI.start HB1.out).write h2;have hz2:=s2.rQ.size;clear y0 y1 y2 y3 y4 y5 y6 y7 h2;obtain⟨y0,y1,y2,y3,y4,y5,y6,y7⟩:=aG (s2.box HB1.out HN.out (by decide) (by decide));have bq:=aj w2 (.cells #[.string ⟨#[32,61,32]⟩,.string ⟨#[32,105,110,32]⟩] 9);have s3:=s2.below bq hB1;have HP1:=ah (HP.out _ (w2.alloc (.cells #[.string ⟨#[32,61,32]⟩,.string ⟨#[32,105,110,32]⟩] 9)) w2.heap.size (vU.trans s3.rQ) s3.qM (heap_alloc_new w2 _) (by show (acc++(([108,101,116,32]:List UInt8)++e.name)).length+_≤_;simp only[bP,dX,List.length_nil];omega));go_wp2_with (go_at_call 207;refine HP1.out.mono ?_;rintro r w3 h3;obtain rfl:=h3.eq)
 go_end0
 rw[LP.out]
 have:=bS.from hal hB (s3.write h3)
 simpa [List.append_assoc] using this
end Go.Proofs.YtknicmmigbhpcaaGreatDoor
