/- Walks and plain laws: TypedW, ShowPA, BagPlain, ScopePlain, BothFit, TextLen, OfL, ProgItems. -/
import Derived.Test.YtknicmmigbhpcaaGreatDoorF21
import Derived.Lib.SlicesCompact
import Derived.Lib.RowBridge
set_option maxHeartbeats 16000000
set_option maxRecDepth 100000
set_option linter.unusedVariables false
set_option linter.unusedSimpArgs false
namespace Go.Proofs.YtknicmmigbhpcaaGreatDoor
open Go.RowKit Go
def gF (base:Int)(ks:List PZ):Bool:=(decide (base=1) || decide (base=2)) && (decide (ks.length≤1) && mo true ks)
def qE (base:Int):List UInt8:=if base=2 then [98,111,111,108] else [105,110,116]
def fC:List PZ→List UInt8
 | []=>[]
 | e :: l=>[32,123]++e.text++[125]++fC l
def gG (base:Int)(ks:List PZ):List UInt8:=qE base++fC ks
theorem om:∀ a b:List PZ,fC (a++b)=fC a++fC b
 | [],b=>rfl
 | e :: a,b=>by rw[List.cons_append,fC,fC,om a b];simp
theorem Ib {ks:List PZ}{k:Nat}(h:k<ks.length):fC (ks.take (k+1))=fC (ks.take k)++([32,123]++ks[k].text++[125]):=by
 rw[List.take_succ_eq_append_getElem h,om];simp[fC]
theorem NG (ks:List PZ)(k:Nat):(fC (ks.take k)).length≤(fC ks).length:=by
 conv=>rhs;rw[← List.take_append_drop k ks,om,bP]
 omega
theorem jH.below {B:Nat}{w W:World}{ae:Option Addr}{ks:List PZ}(h:jH B w ae ks)(hW:Below w.heap.size w W):jH B W ae ks:=fun h0=>by
 obtain⟨b,off,q1,q2,q3,q4⟩:=h h0;refine⟨b,off,q1,q2,Nat.lt_of_lt_of_le q3 hW.size,fun i hi=>?_⟩;obtain⟨BU,wn',BX,xM,xO,q5,q6⟩:=q4 i hi;exact⟨BU,wn',BX,xM,xO,q5.frame (aQ.of hW),fun j u hu=>(hW.cell (p:=⟨b,off+i * 8+j,none⟩) q3).trans (q6 j u hu)⟩
theorem l6 {B:Nat}{w:World}{kv:Value}{zs:List PZ}(h:RowK (ZK YA) (fun b=>b<B) w kv zs):∃ ao cap,kv=.slice ao zs.length cap∧jH B w ao zs:=by
 obtain⟨ao,cap,hv,_,hf⟩:=h.form;refine⟨ao,cap,hv,fun h0=>?_⟩;obtain⟨b,off,h1,h2,h3,h4⟩:=hf h0;refine⟨b,off,h1,h2,h3,fun i hi=>?_⟩;obtain⟨x,h5,h6⟩:=h4 i hi;have h5':oI YA (fun b=>b<B) w x.1 x.2 zs[i]:=h5;obtain⟨am,wn,cm,ak,ck,e1,e2⟩:=h5'.slX;refine⟨am,wn,cm,ak,ck,by rw[← e1,← e2];exact h5',fun j u hu=>h6 j u ?_⟩;show (YA.cells zs[i] x.1 x.2)[j]?=some u;rw[e1,e2];exact hu
theorem KC (x:PZ)(hf:x.fit)(B:Nat)(w:World)(hB:B≤w.heap.size):Va 126 #[] (fun x=>!x.right true) B w x:=by
 intro W am wn cm ak ck hW hE;have hs:=hW.size;have hz:=(PZ.o9 hf).2.2.2.1;have hbx:=aj W (.cells (aU x.op ⟨x.name.toArray⟩ ⟨x.module.toArray⟩ (decide (x.num<0)) (.slice am wn cm) x.yes (.slice ak x.kids.length ck) x.at_) 46);have HX:=ah (CK true _ x (Nat.lt_succ_self _) hf B am wn cm ak ck (W.alloc (.cells (aU x.op ⟨x.name.toArray⟩ ⟨x.module.toArray⟩ (decide (x.num<0)) (.slice am wn cm) x.yes (.slice ak x.kids.length ck) x.at_) 46)) (hE.frame (aQ.of hbx)) (by simp;omega) (by omega));have hN:=heap_alloc_new W (.cells (aU x.op ⟨x.name.toArray⟩ ⟨x.module.toArray⟩ (decide (x.num<0)) (.slice am wn cm) x.yes (.slice ak x.kids.length ck) x.at_) 46)
 show Calls _ _ #[_] _ fun r w'=>r=.returned (.bool (!x.right true))∧Below W.heap.size W w'
 generalize x.right true=rb at *;clear hE hz hf;go_enter Tryz.func126,Tryz.ntmps126
 go_upto_region 1 with fail
 change Code.wp _ _ _ _ (W.alloc (.cells (aU x.op ⟨x.name.toArray⟩ ⟨x.module.toArray⟩ (decide (x.num<0)) (.slice am wn cm) x.yes (.slice ak x.kids.length ck) x.at_) 46));generalize W.alloc _=w0 at hbx hN HX ⊢;obtain⟨y0,y1,y2,y3,y4,y5,y6,y7⟩:=aG hN;go_wp2_with (go_at_call 127;refine HX.out.mono ?_;rintro r w1 ⟨rfl,hb1⟩);go_ret;exact⟨rfl,hbx.trans (hb1.mono hbx.size)⟩
theorem KD (base:Int)(B:Nat)(ae:Option Addr)(ce:Nat)(ks:List PZ)(w:World)(hk:jH B w ae ks)(hB:B≤w.heap.size)(hn:ks.length≤1099511627776)(hf:∀ x∈ks,x.fit) :
  Calls Tryz.prog 75 #[.int .i64 base,.slice ae ks.length ce] w fun r w'=>r=.returned (.bool (gF base ks))∧Below w.heap.size w w':=by
 have HC:=ah (fun W (hW:Below w.heap.size w W)=>mD 126 #[] (fun x=>!x.right true) (enters_of Tryz.func126 (by kernel_rfl) rfl) B ae ce ks W (hk.below hW) (Nat.le_trans hB hW.size) hn fun x hx=>KC x (hf x hx) B W (Nat.le_trans hB hW.size))
 have hdef:gF base ks=((decide (base=1) || decide (base=2)) && (decide (ks.length≤1) && !(ks.any fun x=>!x.right true))):=by rw[gF,vT]
 rw[hdef];clear hdef hk hf;generalize (ks.any fun x=>!x.right true)=an at *;generalize ks.length=n at *
 by_cases h1:n≤1
 ·have h1I:(n:Int)≤1:=by omega
  rw[decide_eq_true h1,Bool.true_and];clear h1
  by_cases hb1:base=1
  ·subst hb1
   rw[decide_eq_true rfl,Bool.true_or,Bool.true_and];go_enter Tryz.func75,Tryz.ntmps75;go_wp2_with (go_at_call 95;refine(HC.out _ (Below.refl _ _)).mono ?_;rintro r w5 ⟨rfl,hb5⟩);go_ret;exact⟨rfl,hb5⟩
  ·have ht1:(base == 1)=false:=beq_eq_false_iff_ne.2 hb1
   by_cases hb2:base=2
   ·subst hb2
    rw[decide_eq_false (by decide),decide_eq_true rfl,Bool.false_or,Bool.true_and];clear hb1;go_enter Tryz.func75,Tryz.ntmps75;go_wp2_with (go_at_call 95;refine(HC.out _ (Below.refl _ _)).mono ?_;rintro r w5 ⟨rfl,hb5⟩);go_ret;exact⟨rfl,hb5⟩
   ·have ht2:(base == 2)=false:=beq_eq_false_iff_ne.2 hb2
    rw[decide_eq_false hb1,decide_eq_false hb2,Bool.false_or,Bool.false_and];clear hb1 hb2 HC;go_enter Tryz.func75,Tryz.ntmps75;go_wp2;go_ret;exact⟨rfl,Below.refl _ _⟩
 ·have h1I:(1:Int)<(n:Int):=by omega
  rw[decide_eq_false h1,Bool.false_and,Bool.and_false];clear h1 HC
  by_cases hb1:base=1
  ·subst hb1
   go_enter Tryz.func75,Tryz.ntmps75;go_wp2;go_ret;exact⟨rfl,Below.refl _ _⟩
  ·have ht1:(base == 1)=false:=beq_eq_false_iff_ne.2 hb1
   by_cases hb2:base=2
   ·subst hb2
    clear hb1;go_enter Tryz.func75,Tryz.ntmps75;go_wp2;go_ret;exact⟨rfl,Below.refl _ _⟩
   ·have ht2:(base == 2)=false:=beq_eq_false_iff_ne.2 hb2
    clear hb1 hb2;go_enter Tryz.func75,Tryz.ntmps75;go_wp2;go_ret;exact⟨rfl,Below.refl _ _⟩
theorem KE (w:World):(Instr.index 217 (.agg #[.string ⟨#[]⟩,.string ⟨#[105,110,116]⟩,.string ⟨#[98,111,111,108]⟩]) (.int .i64 1)).run Tryz.prog w=.ok (.string ⟨#[105,110,116]⟩) w:=by kernel_rfl
theorem KF (w:World):(Instr.index 217 (.agg #[.string ⟨#[]⟩,.string ⟨#[105,110,116]⟩,.string ⟨#[98,111,111,108]⟩]) (.int .i64 2)).run Tryz.prog w=.ok (.string ⟨#[98,111,111,108]⟩) w:=by kernel_rfl
theorem NH {base:Int}(h:base=1∨base=2):∀ w:World,(Instr.index 217 (.agg #[.string ⟨#[]⟩,.string ⟨#[105,110,116]⟩,.string ⟨#[98,111,111,108]⟩]) (.int .i64 base)).run Tryz.prog w=.ok (.string ⟨(qE base).toArray⟩) w:=by
 rcases h with rfl|rfl
 ·exact KE
 ·exact KF
theorem NI (base:Int)(hbase:base=1∨base=2)(ks:List PZ)(B B' b:Nat)(ae:Option Addr)(ce:Nat)(acc:List UInt8)(w:World)(hk:∀ x∈ks,Nw x)(h:jH B w ae ks)(mP:B≤B')(hbd:jO B' b acc w 155)(hB:B'≤w.heap.size)(hn:acc.length+(gG base ks).length≤1099511627776)(hkl:ks.length≤1000000) :
  Calls Tryz.prog 76 #[.pointer (some ⟨b,0,none⟩),.int .i64 base,.slice ae ks.length ce] w (bS B' b (acc++gG base ks) w):=by
 have HH:=ah h;have HK:=ah hk;have hix:=NH hbase;have hw1:=ah (iN ⟨(qE base).toArray⟩ B' b acc w hbd hB (by rw[gG,bP] at hn;show acc.length+(qE base).toArray.size≤_;simp only[List.size_toArray];omega))
 have hn2:(acc++qE base).length+(fC ks).length≤1099511627776:=by rw[gG,bP] at hn;rw[bP];omega
 have hfin:acc++gG base ks=(acc++qE base)++fC ks:=by rw[gG,List.append_assoc]
 rw[hfin];clear hfin hn h hk hbase;have hbs:(ByteArray.mk (qE base).toArray).data.toList=qE base:=rfl;rw[hbs] at hw1;clear hbs;have Vo:=ah hbd;clear hbd;generalize ByteArray.mk (qE base).toArray=BS at hix hw1;generalize acc++qE base=RF at *;go_enter Tryz.func76,Tryz.ntmps76
 go_upto_region 1 with (go_at_call 128;refine hw1.out.mono ?_;rintro r w1 h1;obtain rfl:=h1.eq)
 have hs1:=(jI.start Vo.out).write h1;have H1:=ah h1;have XI:=ah (jI.start hs1.qM);have hz1:=hs1.rQ.size;clear hs1 h1 hix hw1;go_wp2
 go_loopw [16] (fun q wr=>∃ k:Nat,k≤ks.length∧q=.int .i64 k∧jI w1 B' b (RF++fC (ks.take k)) wr) (fun q _=>ks.length - (intOf q).toNat)
 case atStart=>exact⟨0,Nat.zero_le _,rfl,by simpa [fC] using XI.out⟩
 case round =>
  obtain⟨k,hkk,rfl,st⟩:=hrel;have hz:=st.rQ.size
  by_cases hlt:k<ks.length
  ·have hsn:=Ib hlt
   have hle:=NG ks (k+1);rw[hsn] at hle;have HD:=ah (HK.out _ (List.getElem_mem hlt));obtain⟨kb,off,FP,FQ,FR,IY,ck1,rfl,hkB,hE,x0,x1,x2,x3,x4,x5,x6,x7⟩:=HH.out.at ((H1.out.2.2.1.trans st.rQ).mono mP) hlt;have pQ:=ah hsn;have HST:=ah st;clear hsn st;generalize fC (ks.take k)=c at hle pQ HST;generalize ks[k]=x at *
   have nJ:(k:Int)<(ks.length:Int):=by omega
   simp only[bP,dX,List.length_nil] at hle
   have hl1:(RF++c).length+2≤1099511627776:=by rw[bP];omega
   have hl2:(RF++c++[32,123]).length+x.text.length+1≤1099511627776:=by simp only[bP,dX,List.length_nil];omega
   have hal:=aj wr (.cells (aU x.op ⟨x.name.toArray⟩ ⟨x.module.toArray⟩ (decide (x.num<0)) (.slice FP FQ FR) x.yes (.slice IY x.kids.length ck1) x.at_) 46);have hN:=heap_alloc_new wr (.cells (aU x.op ⟨x.name.toArray⟩ ⟨x.module.toArray⟩ (decide (x.num<0)) (.slice FP FQ FR) x.yes (.slice IY x.kids.length ck1) x.at_) 46);have s1:=HST.out.below hal (by omega);have hE1:=hE.frame (aQ.sI (hal.mono (by omega:B'≤wr.heap.size)) (fun b hb=>by omega:∀ b,b<B→b<B'));clear hle hE
   go_upto_region 4 with fail
   change Code.wp _ _ _ _ (wr.alloc (.cells (aU x.op ⟨x.name.toArray⟩ ⟨x.module.toArray⟩ (decide (x.num<0)) (.slice FP FQ FR) x.yes (.slice IY x.kids.length ck1) x.at_) 46));clear x0 x1 x2 x3 x4 x5 x6 x7;generalize wr.alloc _=w2 at hal hN s1 hE1 ⊢;have hz2:=hal.size
   go_upto_region 5 with (go_at_call 128;refine(iN ⟨#[32,123]⟩ B' b (RF++c) w2 s1.qM (by omega) hl1).mono ?_;rintro r w3 h3;obtain rfl:=h3.eq)
   have s3:=s1.write h3;have hz3:=s3.rQ.size;have KG:=s1.qM.block h3.2.2.2 hN (by decide) (by decide);obtain⟨y0,y1,y2,y3,y4,y5,y6,y7⟩:=aG KG;have hlx:=h3.2.2.1.size;have HX:=ah (HD.out B B' b FP FQ FR IY ck1 (RF++c++[32,123]) w3 (hE1.frame (aQ.sI h3.2.2.1 fun b hb=>by omega)) mP s3.qM (by omega) (by omega));have HS3:=ah s3;clear HST HD hal hN KG s1 hE1 s3 h3
   go_upto_region 6 with (go_at_call 129;refine HX.out.mono ?_;rintro r w4 h4;obtain rfl:=h4.eq)
   have s4:=HS3.out.write h4;have Kv:=s4.rQ.size;have HS4:=ah s4;have HW4:=ah (iN ⟨#[125]⟩ B' b (RF++c++[32,123]++x.text) w4 s4.qM (by omega) (by rw[bP];show _+1≤_;omega));clear HX HS3 s4 h4 y0 y1 y2 y3 y4 y5 y6 y7;go_wp2_with (go_at_call 128;refine HW4.out.mono ?_;rintro r w5 h5;obtain rfl:=h5.eq);refine⟨⟨k+1,by omega,by go_num,?_⟩,by simp[intOf];omega⟩;have:=HS4.out.write h5;rw[pQ.out]
   simpa [List.append_assoc] using this
  ·obtain rfl:k=ks.length:=by omega
   have nJ:decide ((ks.length:Int)<(ks.length:Int))=false:=decide_eq_false (by omega);rw[List.take_length] at st;have HST:=ah st;clear st;go_wp2
   go_end0
   exact⟨rfl,HST.out.qM,H1.out.2.2.1.trans HST.out.rQ,H1.out.2.2.2.trans HST.out.kept⟩
def qF (base:Int)(ks:List PZ)(w:World)(r:Ending)(w':World):Prop:=(r=.returned (.tuple #[.string ⟨(if gF base ks=true then gG base ks else []).toArray⟩,.int .i64 (if gF base ks=true then 0 else 10)]))∧Below w.heap.size w w'
theorem VH (base:Int)(ks:List PZ):gG base ks≠[]:=by
 unfold gG qE
 split<;>simp
theorem vV (base:Int)(ks:List PZ)(B:Nat)(ae:Option Addr)(ce:Nat)(w:World)(h:jH B w ae ks)(hB:B≤w.heap.size)(hf:∀ x∈ks,x.fit)(hkl:ks.length≤1000000)(hn:(gG base ks).length≤1099511627776) :
  Calls Tryz.prog 49 #[.int .i64 base,.slice ae ks.length ce] w (qF base ks w):=by
 have HC:=ah (KD base B ae ce ks w h hB (by omega) hf);unfold qF
 cases hc:gF base ks with
 | false =>
  rw[hc] at HC;simp only[Bool.false_eq_true,if_false];clear h hf hn hc;go_enter Tryz.func49,Tryz.ntmps49;go_wp2_with (go_at_call 75;refine HC.out.mono ?_;rintro r w1 ⟨rfl,hb1⟩);go_ret2;exact⟨rfl,hb1⟩
 | true =>
  rw[hc] at HC;simp only[if_true];have hc':=hc;unfold gF at hc';simp only[Bool.and_eq_true,Bool.or_eq_true,decide_eq_true_eq] at hc';have hne:=VH base ks;have HT:=ah (fun (w2:World) (hW:Below w.heap.size w w2)=>NI base hc'.1 ks B w2.heap.size w2.heap.size ae ce [] (w2.alloc (.cells #[.pointer none,.slice none 0 0] 155)) (fun x hx=>FU _ x (Nat.lt_succ_self _) (sF.1 hc'.2.2 x hx) (hf x hx)) ((h.below hW).below (aj w2 _)) (Nat.le_trans hB hW.size) (jO.fresh (T:=155) w2) (by simp) (by simpa using hn) hkl);clear h hf hn hc hc';generalize gG base ks=out at *;go_enter Tryz.func49,Tryz.ntmps49
  go_upto_region 3 with (go_at_call 75;refine HC.out.mono ?_;rintro r w2 ⟨rfl,hb2⟩)
  have HT2:=ah (HT.out w2 hb2);have hz2:=hb2.size;have hb3:=hb2.alloc hz2 (.cells #[.pointer none,.slice none 0 0] 155)
  have hz3:w2.heap.size<(w2.alloc (.cells #[.pointer none,.slice none 0 0] 155)).heap.size:=by simp
  clear HC HT
  go_upto_region 4 with fail
  change Code.wp _ _ _ _ (w2.alloc (.cells #[.pointer none,.slice none 0 0] 155));generalize w2.alloc _=w3 at HT2 hb3 hz3 ⊢
  go_upto_region 5 with (go_at_call 76;refine HT2.out.mono ?_;rintro r w4 h4;obtain rfl:=h4.eq)
  have TJ:=h4.2.1;rw[List.nil_append] at TJ;have qP:=hb3.trans (h4.2.2.1.mono hz2);have QJ:(⟨w2.heap.size,0,none⟩:Addr).block<w4.heap.size:=TJ.lt;have HS:=ah (VG w2.heap.size w2.heap.size out w4 TJ hne);clear TJ h4 HT2;go_wp2_with (go_at_call 77;refine HS.out.mono ?_;rintro r w5 ⟨rfl,hb5⟩);go_ret2;exact⟨rfl,qP.trans (hb5.mono hz2)⟩
structure ZF where
 name:List UInt8
 base:Int
 clause:List PZ
 at_:Int
 bare:Int
structure ZD where
 pub:Bool
 params:List ZF
 res:ZF
 body:PZ
structure ZP where
 imports:List (List UInt8 × Int)
 defs:List ZD
def ZF.right (f:ZF):Bool:=dK f.name && gF f.base f.clause
def ZD.sound (d:ZD):Bool:=dK d.res.name && (decide (d.params.length≤8) && (!(d.params.any fun f=>!f.right) && (gF d.res.base d.res.clause && d.body.right false)))
def ZF.text (f:ZF):List UInt8:=f.name++[58,32]++gG f.base f.clause
def ZD.text (d:ZD):List UInt8:=(if d.pub=true then [112,117,98,32] else [])++([102,117,110,32]++d.res.name++[40])++bg (d.params.map ZF.text)++[41,58,32]++gG d.res.base d.res.clause++[32,61,32]++d.body.text++[59,10]
def YR (m:List UInt8 × Int):List UInt8:=[105,109,112,111,114,116,32]++m.1++[59,10]
def ZP.right (p:ZP):Bool:=decide (p.imports.length≤16) && (decide (p.defs.length≤64) && (p.imports.all (fun m=>dK m.1) && p.defs.all ZD.sound))
def ZP.text (p:ZP):List UInt8:=p.imports.flatMap YR++p.defs.flatMap ZD.text
def ZF.fit (f:ZF):Prop:=f.name.length≤65536∧f.clause.length≤1000000∧∀ e∈f.clause,e.fit
def ZD.fit (d:ZD):Prop:=d.params.length≤1000000∧(∀ f∈d.params,f.fit)∧d.res.fit∧d.body.fit
def ZP.fit (p:ZP):Prop:=p.imports.length≤1000000∧(∀ m∈p.imports,m.1.length≤65536)∧p.defs.length≤1000000∧∀ d∈p.defs,d.fit
def ZFK:RK ZF Value where
 sz:=5
 cells f cv:=[bY f.name,.int .i64 f.base,cv,.int .i64 f.at_,.int .i64 f.bare]
 inn P w f cv:=RowK (ZK YA) P w cv f.clause
 len _ _:=rfl
 frame h ha:=h.frame ha
 imp h hq:=h.imp hq
def ZDK:RK ZD DV where
 sz:=15
 cells d x:=[.bool d.pub,bY d.res.name,x.pv,.int .i64 d.res.base,x.cv,.int .i64 d.body.op,bY d.body.name,bY d.body.module,.bool (decide (d.body.num<0)),x.m,.bool d.body.yes,x.k,.int .i64 d.body.at_,.int .i64 d.res.at_,.int .i64 d.res.bare]
 inn P w d x:=RowK ZFK P w x.pv d.params∧RowK (ZK YA) P w x.cv d.res.clause∧oI YA P w x.m x.k d.body
 len _ _:=rfl
 frame h ha:=⟨h.1.frame ha,h.2.1.frame ha,h.2.2.frame ha⟩
 imp h hq:=⟨h.1.imp hq,h.2.1.imp hq,h.2.2.imp hq⟩
def Pv (B:Nat)(w:World)(ae:Option Addr)(fs:List ZF):Prop:=0<fs.length→∃ b off,ae=some ⟨b,off,none⟩∧b<B∧b<w.heap.size∧∀ i,(hi:i<fs.length)→∃ ac cc,jH B w ac fs[i].clause∧w.cell? ⟨b,off+i * 5,none⟩=some (.string ⟨fs[i].name.toArray⟩)∧w.cell? ⟨b,off+i * 5+1,none⟩=some (.int .i64 fs[i].base)∧w.cell? ⟨b,off+i * 5+2,none⟩=some (.slice ac fs[i].clause.length cc)∧w.cell? ⟨b,off+i * 5+3,none⟩=some (.int .i64 fs[i].at_)∧w.cell? ⟨b,off+i * 5+4,none⟩=some (.int .i64 fs[i].bare)
theorem jH.sI {B:Nat}{w W:World}{ae:Option Addr}{ks:List PZ}(h:jH B w ae ks)(hW:Below B w W):jH B W ae ks:=fun h0=>by
 obtain⟨b,off,q1,q2,q3,q4⟩:=h h0;refine⟨b,off,q1,q2,Nat.lt_of_lt_of_le q3 hW.size,fun i hi=>?_⟩;obtain⟨BU,wn',BX,xM,xO,q5,q6⟩:=q4 i hi;exact⟨BU,wn',BX,xM,xO,q5.frame (aQ.sI hW fun b hb=>hb),fun j u hu=>(hW.cell (p:=⟨b,off+i * 8+j,none⟩) q2).trans (q6 j u hu)⟩
theorem Pv.sI {B:Nat}{w W:World}{ae:Option Addr}{ks:List ZF}(h:Pv B w ae ks)(hW:Below B w W):Pv B W ae ks:=fun h0=>by
 obtain⟨b,off,q1,q2,q3,q4⟩:=h h0;refine⟨b,off,q1,q2,Nat.lt_of_lt_of_le q3 hW.size,fun i hi=>?_⟩;obtain⟨ac,cc,q5,c0,c1,c2,c3,c4⟩:=q4 i hi;exact⟨ac,cc,q5.sI hW,(hW.cell (p:=⟨b,off+i * 5,none⟩) q2).trans c0,(hW.cell (p:=⟨b,off+i * 5+1,none⟩) q2).trans c1,(hW.cell (p:=⟨b,off+i * 5+2,none⟩) q2).trans c2,(hW.cell (p:=⟨b,off+i * 5+3,none⟩) q2).trans c3,(hW.cell (p:=⟨b,off+i * 5+4,none⟩) q2).trans c4⟩
theorem Ic {w:World}{b:Nat}{c0 c1 c2 c3 c4:Value}(h:w.heap[b]?=some (.cells #[c0,c1,c2,c3,c4] 80 (0,0))):w.cell? ⟨b,0,none⟩=some c0∧w.cell? ⟨b,1,none⟩=some c1∧w.cell? ⟨b,2,none⟩=some c2∧w.cell? ⟨b,3,none⟩=some c3∧w.cell? ⟨b,4,none⟩=some c4:=by
 refine⟨?_,?_,?_,?_,?_⟩<;>(rw[Lib.cell_of_heap h];rfl)
end Go.Proofs.YtknicmmigbhpcaaGreatDoor

namespace Go.Proofs.YtknicmmigbhpcaaGreatDoor
theorem nD {x y:List UInt8}(h1:x≤y)(h2:y≤x):x=y:=List.le_antisymm h1 h2
theorem FY {x y z:List UInt8}(h1:x≤y)(h2:y≤z):x≤z:=List.le_trans h1 h2
theorem RG (x y:List UInt8):x≤y∨y≤x:=List.le_total x y
theorem Ie {x y:List UInt8}:x<y↔x≤y∧x≠y:=by
 constructor
 ·intro h
  exact⟨List.le_of_lt h,fun q=>by subst q;exact List.lt_irrefl _ h⟩
 ·rintro⟨h1,h2⟩
  apply Classical.byContradiction
  intro q;exact h2 (nD h1 (List.not_lt.1 q))
theorem RH {x y z:List UInt8}(h1:x≤y)(h2:y<z):x<z:=by
 rw[Ie] at h2 ⊢;exact⟨FY h1 h2.1,fun q=>by subst q;exact h2.2 (nD h2.1 h1)⟩
def fD (l:List (List UInt8)):List (List UInt8):=l.mergeSort fun x y=>decide (x≤y)
theorem NJ (l:List (List UInt8)):(fD l).Perm l:=List.mergeSort_perm _ _
theorem nM (l:List (List UInt8)):(fD l).length=l.length:=List.length_mergeSort l
theorem Ig (l:List (List UInt8)):(fD l).Pairwise (·≤·):=by
 have:=List.pairwise_mergeSort (le:=fun x y:List UInt8=>decide (x≤y)) (fun a b c h1 h2=>by simp only[decide_eq_true_eq] at *;exact FY h1 h2) (fun a b=>by simp only[Bool.or_eq_true,decide_eq_true_eq];exact RG a b) l
 exact this.imp fun h=>by simpa using h
def bF (l:List (List UInt8)):List (List UInt8):=Lib.compact (fD l)
theorem mZ (d:Array (List UInt8)):∀ (m:Nat) (j:Nat),j<m→d[j]!∈Lib.compactUpTo d m
 | 0,j,h=>absurd h (by omega)
 | m+1,j,h=>by
  rw[Lib.compactUpTo_succ,List.mem_append]
  by_cases q:j<m
  ·exact .inl (mZ d m j q)
  ·obtain rfl:j=m:=by omega
   by_cases k:Lib.keeps d j=true
   ·rw[if_pos k];exact .inr (by simp)
   ·left
    unfold Lib.keeps at k;simp only[decide_eq_true_eq,not_or,Classical.not_not,ne_eq] at k;rw[k.2];exact mZ d j (j - 1) (by omega)
theorem tH (d:Array (List UInt8))(m:Nat)(x:List UInt8)(h:x∈Lib.compactUpTo d m):∃ j,j<m∧x=d[j]!:=by
 unfold Lib.compactUpTo at h;obtain⟨j,hj,rfl⟩:=List.mem_map.1 h;exact⟨j,List.mem_range.1 (List.mem_filter.1 hj).1,rfl⟩
theorem VI {l:List (List UInt8)}{x:List UInt8}:x∈bF l↔x∈l:=by
 rw[← (NJ l).mem_iff];unfold bF Lib.compact
 constructor
 ·intro h
  obtain⟨j,hj,rfl⟩:=tH _ _ _ h;rw[getElem!_pos _ _ (by simpa using hj)]
  simp
 ·intro h
  obtain⟨j,hj,rfl⟩:=List.getElem_of_mem h;have:=mZ (fD l).toArray (fD l).length j hj;rw[getElem!_pos _ _ (by simpa using hj)] at this
  simpa using this
theorem oo (zs:List (List UInt8))(hs:zs.Pairwise (·≤·)):∀ m,m≤zs.length→(Lib.compactUpTo zs.toArray m).Pairwise (· < ·)
 | 0,_=>by simp[Lib.compactUpTo]
 | m+1,h=>by
  rw[Lib.compactUpTo_succ,List.pairwise_append];refine⟨oo zs hs m (by omega),by split<;>simp,fun x hx y hy=>?_⟩
  split at hy
  ·rename_i k
   rw[List.mem_singleton] at hy;subst hy;obtain⟨j,hj,rfl⟩:=tH _ _ _ hx;unfold Lib.keeps at k;rw[decide_eq_true_eq] at k;have hne:zs.toArray[m]!≠zs.toArray[m - 1]!:=k.resolve_left (by omega)
   have e:∀ i,(hi:i<zs.length)→zs.toArray[i]! = zs[i]:=fun i hi=>by rw[getElem!_pos _ _ (by simpa using hi)];simp
   rw[e m (by omega),e (m - 1) (by omega)] at hne;rw[e j (by omega),e m (by omega)]
   have h1:zs[j]≤zs[m - 1]:=by
    by_cases q:j=m - 1
    ·subst q;exact List.le_refl _
    ·exact List.pairwise_iff_getElem.1 hs j (m - 1) (by omega) (by omega) (by omega)
   have h2:zs[m - 1]≤zs[m]:=List.pairwise_iff_getElem.1 hs (m - 1) m (by omega) (by omega) (by omega);exact RH h1 (Ie.2 ⟨h2,fun q=>hne q.symm⟩)
  ·cases hy
theorem tJ (l:List (List UInt8)):(bF l).Pairwise (· < ·):=oo _ (Ig l) _ (Nat.le_refl _)
theorem kY (l:List (List UInt8)):(bF l).length≤l.length:=by
 have:=Lib.compact_length_le (fD l);rw[nM] at this;exact this
theorem KH:bF []=[]:=List.eq_nil_of_length_eq_zero (by have:=kY [];simpa using this)
abbrev Fl:=Option (Int × Int)
def rY:Fl→Fl→Fl
 | none,b=>b
 | some x,_=>some x
theorem xQ (a:Fl):rY a none=a:=by cases a<;>rfl
theorem zn (a b c:Fl):rY (rY a b) c=rY a (rY b c):=by cases a<;>rfl
structure SE where
 imps:List (List UInt8)
 arity:List UInt8→Option Nat
 ext:List UInt8→List UInt8→Option Nat
def CV (o:Option Nat)(n:Nat)(a:Int):Fl:=match o with
 | none=>some (31,a)
 | some k=>if k=n then none else some (32,a)
def FZ (E:SE)(nm md:List UInt8)(n:Nat)(a:Int):Fl :=
 if md=[] then CV (E.arity nm) n a else if md∈E.imps then CV (E.ext md nm) n a else some (33,a)
def tK (E:SE)(bd:List (List UInt8))(res:Bool)(op:Int)(nm md:List UInt8)(n:Nat)(a:Int):Fl :=
 if (op=3∧nm ∉ bd)∨(op=4∧res=false) then some (31,a) else if op=24 then FZ E nm md n a else none
def KI (op:Int)(nm:List UInt8)(bd:List (List UInt8))(i:Nat):List (List UInt8):=if op=22∧i=1 then bF (bd++[nm]) else bd
mutual
def PZ.kZ (E:SE)(bd:List (List UInt8))(res:Bool):PZ→Fl
 | .mk op nm md _ _ kids a=>rY (tK E bd res op nm md kids.length a) (fM E op nm bd res 0 kids)
def fM (E:SE)(op:Int)(nm:List UInt8)(bd:List (List UInt8))(res:Bool):Nat→List PZ→Fl
 | _,[]=>none
 | i,e :: l=>rY (e.kZ E (KI op nm bd i) res) (fM E op nm bd res (i+1) l)
end
theorem PZ.NK (E:SE)(bd:List (List UInt8))(res:Bool)(e:PZ):e.kZ E bd res=rY (tK E bd res e.op e.name e.module e.kids.length e.at_) (fM E e.op e.name bd res 0 e.kids):=by cases e;rw[PZ.kZ];rfl
theorem xR (E:SE)(op:Int)(nm:List UInt8)(bd:List (List UInt8))(res:Bool)(e:PZ):∀ (l:List PZ) (i:Nat),fM E op nm bd res i (l++[e])=rY (fM E op nm bd res i l) (e.kZ E (KI op nm bd (i+l.length)) res)
 | [],i=>by rw[List.nil_append,fM,fM,fM,xQ];rfl
 | x :: l,i=>by
  rw[List.cons_append,fM,fM,xR E op nm bd res e l (i+1),zn,dX,show i+1+l.length=i+(l.length+1) by omega]
theorem Ih (E:SE)(op:Int)(nm:List UInt8)(bd:List (List UInt8))(res:Bool){l:List PZ}{k:Nat}(h:k<l.length) :
  fM E op nm bd res 0 (l.take (k+1))=rY (fM E op nm bd res 0 (l.take k)) (l[k].kZ E (KI op nm bd k) res):=by
 rw[List.take_succ_eq_append_getElem h,xR,List.length_take,Nat.min_eq_left (Nat.le_of_lt h),Nat.zero_add]
def CW (E:SE)(bd:List (List UInt8))(res:Bool):List PZ→Fl
 | []=>none
 | e :: l=>rY (e.kZ E bd res) (CW E bd res l)
def Ii (E:SE)(s:List (List UInt8) × Fl):List ZF→List (List UInt8) × Fl
 | []=>s
 | f :: l=>Ii E (bF (s.1++[f.name]),rY (rY s.2 (if f.name∈s.1 then some (30,f.at_) else none)) (CW E (bF (s.1++[f.name])) false f.clause)) l
def acE (E:SE)(f:Fl)(d:ZD):Fl :=
 rY (rY (Ii E ([],f) d.params).2 (CW E (Ii E ([],f) d.params).1 true d.res.clause)) (d.body.kZ E (Ii E ([],f) d.params).1 false)
def VJ (E:SE)(f:Fl):List ZD→Fl
 | []=>f
 | d :: l=>VJ E (acE E f d) l
def NP (own:List UInt8)(face:List UInt8→Bool)(s:List (List UInt8) × Fl):List (List UInt8 × Int)→List (List UInt8) × Fl
 | []=>s
 | m :: l=>NP own face (bF (s.1++[m.1]),rY s.2 (if m.1=own then some (33,m.2) else if m.1∈s.1 then some (30,m.2) else if face m.1=true then none else some (33,m.2))) l
def nE (l:List ZD)(nm:List UInt8):Option Nat:=(l.find? fun d=>decide (d.res.name=nm)).map fun d=>d.params.length
def Pw (f:Fl):List (List UInt8)→List ZD→Fl
 | _,[]=>f
 | seen,d :: l=>Pw (rY f (if d.res.name∈seen then some (30,d.res.at_) else none)) (seen++[d.res.name]) l
def ZP.se (p:ZP)(own:List UInt8)(face:List UInt8→Bool)(ext:List UInt8→List UInt8→Option Nat):SE:=⟨(NP own face ([],none) p.imports).1,nE p.defs,ext⟩
def ZP.kZ (p:ZP)(own:List UInt8)(face:List UInt8→Bool)(ext:List UInt8→List UInt8→Option Nat):Fl :=
 VJ (p.se own face ext) (Pw (NP own face ([],none) p.imports).2 [] p.defs) p.defs
end Go.Proofs.YtknicmmigbhpcaaGreatDoor

namespace Go.Proofs.YtknicmmigbhpcaaGreatDoor
end Go.Proofs.YtknicmmigbhpcaaGreatDoor

namespace Go.Proofs.YtknicmmigbhpcaaGreatDoor
theorem RI (op:Int):(qg op).length≤2:=by
 unfold qg;generalize op.toNat - 7=i
 have h:∀ x∈([[43],[45],[42],[47],[37],[61],[60,62],[60],[60,61],[62],[62,61],[38,38],[124,124],[61,62]]:List (List UInt8)),x.length≤2:=by decide
 rw[List.getD_eq_getElem?_getD]
 cases hx:([[43],[45],[42],[47],[37],[61],[60,62],[60],[60,61],[62],[62,61],[38,38],[124,124],[61,62]]:List (List UInt8))[i]? with
 | none=>simp
 | some x=>exact h x (List.mem_of_getElem? hx)
theorem xS (l:Int)(k:Int × List UInt8):(oJ l k).length≤k.2.length+2:=by
 unfold oJ
 split
 ·simp only[bP,dX,List.length_nil];omega
 ·omega
def xU:List (Int × List UInt8)→Nat
 | []=>0
 | k :: l=>k.2.length+xU l
theorem NQ:∀ ks:List (Int × List UInt8),(ks.getD 0 (0,[])).2.length+(ks.getD 1 (0,[])).2.length+(ks.getD 2 (0,[])).2.length≤xU ks
 | []=>by simp[xU]
 | [a]=>by simp[xU]
 | [a,b]=>by simp[xU]
 | a :: b :: c :: l=>by simp[xU];omega
theorem CX:∀ ks:List (Int × List UInt8),(bg (ks.map Prod.snd)).length≤xU ks+2 * ks.length
 | []=>by simp[bg,xU]
 | [a]=>by simp[bg,xU]
 | a :: b :: l=>by
  have h:=CX (b :: l);simp only[List.map_cons,bg,bP,dX,List.length_nil,xU] at h ⊢;omega
theorem RJ (op:Int)(nm md:List UInt8)(num:Int)(yes:Bool)(ks:List (Int × List UInt8))(h1:nm.length≤65536)(h2:md.length≤65536)(h3:(iW num).length≤61)(h4:ks.length≤65536):(lF op nm md num yes ks).length≤xU ks+300000:=by
 have h5:=NQ ks;have h6:=CX ks;have h7:=RI op;have p1:=xS 9 (ks.getD 0 (0,[]));have p2:=xS 4 (ks.getD 0 (0,[]));have p3:=xS (sD op) (ks.getD 0 (0,[]));have p4:=xS (wU op) (ks.getD 1 (0,[]))
 have hm:(if md=[] then [] else md++[46]).length≤65537:=by
  split
  ·simp
  ·simp only[bP,dX,List.length_nil];omega
 unfold lF;generalize (if md=[] then [] else md++[46])=mm at hm ⊢
 repeat' split
 all_goals ((try simp only[bP,dX,List.length_nil]);omega)
theorem KJ:∀ (k n:Nat),n<10 ^ (k+1)→(fK n).length≤k+1
 | 0,n,h=>by
  rw[fK,dif_pos (by omega)]
  simp
 | k+1,n,h=>by
  rw[fK]
  split
  ·simp
  ·rw[bP,List.length_singleton]
   have:=KJ k (n / 10) (by rw[Nat.pow_succ] at h;omega);omega
theorem VK {n:Int}(h:n.natAbs<10 ^ 60):(iW n).length≤61:=by
 unfold iW;rw[bP];have:=KJ 59 n.natAbs h
 split
 ·simp only[dX,List.length_nil];omega
 ·simp only[List.length_nil];omega
mutual
theorem PZ.CY:∀ e:PZ,e.fit→e.text.length≤300000 * e.size
 | .mk op nm md num yes kids at_,h=>by
  rw[PZ.fit] at h;obtain⟨h1,h2,h3,h4,h5⟩:=h;have hs:=xV kids h5
  have hl:(gJ kids).length=kids.length:=by rw[nT,List.length_map]
  have:=RJ op nm md num yes (gJ kids) h1 h2 (VK h3) (by omega);rw[PZ.text,PZ.size];omega
theorem xV:∀ l:List PZ,Hy l→xU (gJ l)≤300000 * rM l
 | [],_=>by simp[gJ,xU]
 | e :: l,h=>by
  rw[Hy] at h;have h1:=PZ.CY e h.1;have h2:=xV l h.2;rw[gJ,xU,rM];simp only;omega
end
theorem Px {nodes:List Nd}:∀ (l:List PT) (ks:List Int) (u:Nat),dV nodes ks u l→ks.length=l.length∧∀ j,(h1:j<ks.length)→(h2:j<l.length)→lM nodes ks[j] (u+bB (l.take j)) l[j]
 | [],ks,u,h=>by
  rw[dV] at h;subst h;exact⟨rfl,fun j h1=>absurd h1 (by simp)⟩
 | i :: l,ks,u,h=>by
  rw[dV] at h;obtain⟨k,ks',rfl,h1,h2⟩:=h;obtain⟨h3,h4⟩:=Px l ks' _ h2;refine⟨by simp[h3],fun j q1 q2=>?_⟩
  cases j with
  | zero=>simpa [bB] using h1
  | succ j =>
   have:=h4 j (by simpa using q1) (by simpa using q2);rw[List.take_succ_cons,bB,← Nat.add_assoc];exact this
theorem KL:∀ (l:List PT) (j:Nat) (h:j<l.length),bB (l.take j)+l[j].lv≤bB l
 | [],j,h=>absurd h (by simp)
 | i :: l,0,h=>by simp[bB]
 | i :: l,j+1,h=>by
  have:=KL l j (by simpa using h);rw[List.take_succ_cons,bB,bB];simp only[List.getElem_cons_succ];omega
theorem CZ (toks:List Tok):∀ (n u j:Nat) (h:j<(mW toks u n).length),(mW toks u n)[j]=(aI toks (u+3 * j+1),bZ toks (u+3 * j+1))
 | 0,u,j,h=>absurd h (by simp[mW])
 | n+1,u,0,h=>rfl
 | n+1,u,j+1,h=>by
  have:=CZ toks n (u+3) j (by simpa [mW] using h);simp only[mW,List.getElem_cons_succ,this];rw[show u+3+3 * j+1=u+3 * (j+1)+1 by omega]
theorem C8 (toks:List Tok):∀ (l:List cB) (u j:Nat) (h:j<l.length) (h2:j<(kU toks u l).length),(kU toks u l)[j]=l[j].dd toks (u+bB ((l.take j).map cB.pt))
 | [],u,j,h,_=>absurd h (by simp)
 | d :: l,u,0,h,_=>by simp[kU,bB]
 | d :: l,u,j+1,h,h2=>by
  have:=C8 toks l (u+d.pt.lv) j (by simpa using h) (by simpa [kU] using h2);simp only[kU,List.getElem_cons_succ,this,List.take_succ_cons,List.map_cons,bB,Nat.add_assoc]
theorem C9 {toks:List Tok}:∀ (l:List cB) (u j:Nat) (h:j<l.length),yV toks u l→l[j].ok toks (u+bB ((l.take j).map cB.pt))
 | [],u,j,h,_=>absurd h (by simp)
 | d :: l,u,0,h,ho=>by simpa [bB] using ho.1
 | d :: l,u,j+1,h,ho=>by
  have:=C9 l (u+d.pt.lv) j (by simpa using h) ho.2
  simpa [bB,Nat.add_assoc] using this
theorem kG.YS (p:kG)(j:Nat)(h:j<p.imps):∃ h2:j<p.kids.length,p.kids[j]=sU∧bB (p.kids.take j)=3 * j:=by
 have h2:j<p.kids.length:=by simp only[kG.kids,bP,List.length_replicate];omega
 refine⟨h2,?_,?_⟩
 ·simp only[kG.kids]
  rw[List.getElem_append_left (by simpa using h),List.getElem_replicate]
 ·simp only[kG.kids]
  rw[List.take_append_of_le_length (by simp;omega),List.take_replicate,AJ,Nat.min_eq_left (by omega)]
theorem kG.YT (p:kG)(j:Nat)(h:j<p.defs.length):∃ h2:p.imps+j<p.kids.length,p.kids[p.imps+j]=p.defs[j].pt∧bB (p.kids.take (p.imps+j))=3 * p.imps+bB ((p.defs.take j).map cB.pt):=by
 have h2:p.imps+j<p.kids.length:=by simp only[kG.kids,bP,List.length_replicate,List.length_map];omega
 refine⟨h2,?_,?_⟩
 ·simp only[kG.kids]
  rw[List.getElem_append_right (by simp),List.getElem_append_left (by simp;omega)]
  simp
 ·simp only[kG.kids]
  rw[List.take_append,List.take_of_length_le (by simp),gZ,AJ,List.length_replicate,Nat.add_sub_cancel_left,List.take_append_of_le_length (by simp;omega),List.map_take]
theorem kG.YU (p:kG):∃ h2:p.imps+p.defs.length<p.kids.length,p.kids[p.imps+p.defs.length]=.leaf:=by
 have h2:p.imps+p.defs.length<p.kids.length:=by simp only[kG.kids,bP,List.length_replicate,List.length_map,List.length_singleton];omega
 refine⟨h2,?_⟩;simp only[kG.kids];rw[List.getElem_append_right (by simp),List.getElem_append_right (by simp)]
 simp
theorem kG.VL (p:kG):p.kids.length=p.imps+p.defs.length+1:=by
 simp only[kG.kids,bP,List.length_replicate,List.length_map,List.length_singleton];omega
inductive It where
 | leaf
 | expr (e:CE)
 | par (t:fu)
 | base
 | cl (e:CE)
def It.pt:It→PT
 | .leaf=>.leaf
 | .expr e=>e.pt
 | .par t=>t.par
 | .base=>.node 5 [.leaf]
 | .cl e=>.node 6 [.leaf,e.pt,.leaf]
structure VN where
 base:Nat
 clause:List PE
 bare:Int
def It.step (toks:List Tok)(u:Nat):It→VN→VN
 | .base,a=>⟨if aI toks u=xB then 2 else 1,a.clause,((bZ toks u+(aI toks u).length:Nat):Int)⟩
 | .cl e,a=>⟨a.base,[e.pe toks (u+1)],-1⟩
 | _,a=>a
def lg (toks:List Tok):Nat→List It→VN→VN
 | _,[],a=>a
 | u,i :: l,a=>lg toks (u+i.pt.lv) l (i.step toks u a)
theorem kD (toks:List Tok):∀ (l k:List It) (u:Nat) (a:VN),lg toks u (l++k) a=lg toks (u+bB (l.map It.pt)) k (lg toks u l a)
 | [],k,u,a=>by simp[lg,bB]
 | i :: l,k,u,a=>by
  rw[List.cons_append,lg,kD toks l k,lg,List.map_cons,bB,Nat.add_assoc]
def eO (toks:List Tok):Nat→List It→List FF
 | _,[]=>[]
 | u,.par t :: l=>t.sZ toks u :: eO toks (u+(It.par t).pt.lv) l
 | u,i :: l=>eO toks (u+i.pt.lv) l
theorem fT (toks:List Tok):∀ (l k:List It) (u:Nat),eO toks u (l++k)=eO toks u l++eO toks (u+bB (l.map It.pt)) k
 | [],k,u=>by simp[eO,bB]
 | .par t :: l,k,u=>by
  rw[List.cons_append,eO,fT toks l k,eO,List.map_cons,bB,Nat.add_assoc,List.cons_append]
 | .leaf :: l,k,u=>by
  rw[List.cons_append,eO,fT toks l k,eO,List.map_cons,bB,Nat.add_assoc]<;>simp
 | .base :: l,k,u=>by
  rw[List.cons_append,eO,fT toks l k,eO,List.map_cons,bB,Nat.add_assoc]<;>simp
 | .expr e :: l,k,u=>by
  rw[List.cons_append,eO,fT toks l k,eO,List.map_cons,bB,Nat.add_assoc]<;>simp
 | .cl e :: l,k,u=>by
  rw[List.cons_append,eO,fT toks l k,eO,List.map_cons,bB,Nat.add_assoc]<;>simp
def fu.its (t:fu):List It:=[.leaf,.base]++(match t.cl with|none=>[]|some e=>[.cl e])
theorem fu.Da (t:fu):t.its.map It.pt=t.pts:=by
 unfold fu.its fu.pts
 cases t.cl<;>rfl
def fu.oq (t:fu):List It:=.leaf :: t.its
theorem fu.RL (t:fu):t.par=.node 4 (t.oq.map It.pt):=by
 rw[fu.par,fu.oq,List.map_cons,t.Da]
 rfl
def fq:List fu→List It
 | []=>[]
 | t :: l=>.par t :: (match l with | []=>[]|_ :: _=>.leaf :: fq l)
theorem qG:∀ l:List fu,(fq l).map It.pt=jG (l.map fu.par)
 | []=>rfl
 | [t]=>rfl
 | t :: s :: l=>by
  have:=qG (s :: l);rw[show fq (t :: s :: l)=.par t :: .leaf :: fq (s :: l) from by rw[fq],List.map_cons,List.map_cons,this];show _=jG (t.par :: s.par :: l.map fu.par);rw[qm]
  rfl
def cB.eP (d:cB):List It:=if d.pub=true then [.leaf] else []
def cB.its (d:cB):List It:=d.eP++([.leaf,.leaf,.leaf]++(fq d.jS++([.leaf]++(d.ty.its++[.leaf,.expr d.body,.leaf]))))
theorem cB.Da (d:cB):d.pt=.node 3 (d.its.map It.pt):=by
 have h:d.eP.map It.pt=d.lead:=by unfold cB.eP cB.lead;split<;>rfl
 rw[cB.pt,cB.kids,cB.its];simp only[List.map_append,h,qG,d.ty.Da,List.map_cons,List.map_nil,It.pt]
theorem nN (toks:List Tok):∀ (l:List It) (u:Nat) (a:VN),(∀ i∈l,(i matches .leaf)∨(i matches .par _)∨(i matches .expr _))→lg toks u l a=a
 | [],u,a,_=>rfl
 | i :: l,u,a,h=>by
  rw[lg,nN toks l _ _ fun x hx=>h x (List.mem_cons_of_mem _ hx)];have:=h i List.mem_cons_self
  cases i<;>simp_all [It.step]
theorem KM (toks:List Tok)(t:fu)(u:Nat)(name:List UInt8)(at_:Nat){b0:Nat}{y0:Int}:lg toks u t.its ⟨b0,[],y0⟩=⟨(t.ff toks u name at_).base,(t.ff toks u name at_).clause,(t.ff toks u name at_).bare⟩:=by
 unfold fu.its fu.ff
 cases t.cl with
 | none=>simp[lg,It.step,It.pt,PT.lv]
 | some e=>simp[lg,It.step,It.pt,PT.lv,bB]
theorem Db:∀ l:List fu,∀ i∈fq l,(i matches .leaf)∨(i matches .par _)∨(i matches .expr _)
 | [],i,h=>by rw[fq] at h;cases h
 | [t],i,h=>by
  rw[fq,List.mem_singleton] at h;subst h;exact .inr (.inl rfl)
 | t :: s :: l,i,h=>by
  rw[show fq (t :: s :: l)=.par t :: .leaf :: fq (s :: l) from by rw[fq],List.mem_cons,List.mem_cons] at h
  rcases h with rfl|rfl|h
  ·exact .inr (.inl rfl)
  ·exact .inl rfl
  ·exact Db (s :: l) i h
theorem fu.YV (toks:List Tok)(t:fu)(u:Nat){b0:Nat}{y0:Int}:lg toks u t.oq ⟨b0,[],y0⟩=⟨(t.sZ toks u).base,(t.sZ toks u).clause,(t.sZ toks u).bare⟩:=by
 rw[fu.oq,lg,fu.sZ];exact KM toks t (u+1) _ _
theorem cB.typ (toks:List Tok)(d:cB)(u:Nat){b0:Nat}{y0:Int}:lg toks u d.its ⟨b0,[],y0⟩=⟨(d.dd toks u).res.base,(d.dd toks u).res.clause,(d.dd toks u).res.bare⟩:=by
 have h1:∀ i∈d.eP,(i matches .leaf)∨(i matches .par _)∨(i matches .expr _):=fun i h=>by
  unfold cB.eP at h
  split at h
  ·rw[List.mem_singleton] at h;subst h;exact .inl rfl
  ·cases h
 have h2:∀ i∈[It.leaf,.leaf,.leaf],(i matches .leaf)∨(i matches .par _)∨(i matches .expr _):=fun i h=>by
  simp only[List.mem_cons,List.not_mem_nil,or_false,or_self] at h;subst h;exact .inl rfl
 have h3:∀ i∈[It.leaf,.expr d.body,.leaf],(i matches .leaf)∨(i matches .par _)∨(i matches .expr _):=fun i h=>by
  simp only[List.mem_cons,List.not_mem_nil,or_false] at h
  rcases h with rfl|rfl|rfl
  ·exact .inl rfl
  ·exact .inr (.inr rfl)
  ·exact .inl rfl
 have h4:∀ i∈[It.leaf],(i matches .leaf)∨(i matches .par _)∨(i matches .expr _):=fun i h=>by
  rw[List.mem_singleton] at h;subst h;exact .inl rfl
 have hl:bB (d.eP.map It.pt)=bB d.lead:=by unfold cB.eP cB.lead;split<;>rfl
 rw[cB.its,kD,nN toks _ _ _ h1,kD,nN toks _ _ _ h2,kD,nN toks _ _ _ (Db _),kD,nN toks _ _ _ h4,kD,nN toks _ _ _ h3]
 rw[show u+bB (d.eP.map It.pt)+bB ([It.leaf,.leaf,.leaf].map It.pt)+bB ((fq d.jS).map It.pt)+bB ([It.leaf].map It.pt)=d.at2 u by
  rw[hl,qG]
  simp only[cB.at2,cB.Cj,List.map_cons,List.map_nil,It.pt,bB,PT.lv]]
 exact KM toks d.ty _ _ _
theorem uK (toks:List Tok):∀ (l:List It) (u:Nat),(∀ i∈l,¬ (i matches .par _))→eO toks u l=[]
 | [],u,_=>rfl
 | i :: l,u,h=>by
  have h1:=h i List.mem_cons_self
  have h2:=uK toks l (u+i.pt.lv) fun x hx=>h x (List.mem_cons_of_mem _ hx)
  cases i with
  | par t=>simp at h1
  | leaf=>rw[eO];exact h2;simp
  | base=>rw[eO];exact h2;simp
  | expr e=>rw[eO];exact h2;simp
  | cl e=>rw[eO];exact h2;simp
theorem KN (toks:List Tok):∀ (l:List fu) (u:Nat),eO toks u (fq l)=lX toks u l
 | [],u=>rfl
 | [t],u=>by rw[fq,eO,eO,lX,lX]
 | t :: s :: l,u=>by
  rw[show fq (t :: s :: l)=.par t :: .leaf :: fq (s :: l) from by rw[fq],eO,eO,KN toks (s :: l),lX]
  ·rfl
  ·simp
theorem cB.VO (toks:List Tok)(d:cB)(u:Nat):eO toks u d.its=(d.dd toks u).params:=by
 have h1:∀ i∈d.eP,¬ (i matches .par _):=fun i h=>by
  unfold cB.eP at h
  split at h
  ·rw[List.mem_singleton] at h;subst h;simp
  ·cases h
 have h2:∀ i∈[It.leaf,.leaf,.leaf],¬ (i matches .par _):=fun i h=>by
  simp only[List.mem_cons,List.not_mem_nil,or_false,or_self] at h;subst h;simp
 have h3:∀ i∈([It.leaf]++(d.ty.its++[.leaf,.expr d.body,.leaf])),¬ (i matches .par _):=fun i h=>by
  unfold fu.its at h
  cases hc:d.ty.cl with
  | none =>
   rw[hc] at h;simp only[List.mem_append,List.mem_cons,List.not_mem_nil,or_false] at h
   rcases h with rfl|(rfl|rfl)|rfl|rfl|rfl<;>simp
  | some e =>
   rw[hc] at h;simp only[List.mem_append,List.mem_cons,List.not_mem_nil,or_false] at h
   rcases h with rfl|((rfl|rfl)|rfl)|rfl|rfl|rfl<;>simp
 have hl:bB (d.eP.map It.pt)=bB d.lead:=by unfold cB.eP cB.lead;split<;>rfl
 rw[cB.its,fT,uK toks _ _ h1,fT,uK toks _ _ h2,fT,uK toks _ _ h3,KN,List.nil_append,List.nil_append,List.append_nil,hl];simp only[List.map_cons,List.map_nil,It.pt,bB,PT.lv]
 rfl
end Go.Proofs.YtknicmmigbhpcaaGreatDoor
