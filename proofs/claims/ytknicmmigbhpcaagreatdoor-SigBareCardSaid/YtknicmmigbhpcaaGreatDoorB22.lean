/- Walks and plain laws: TypedW, ShowPA, ScopePlain, BothFit, TextLen, OfL, ProgItems. -/
import Derived.Test.YtknicmmigbhpcaaGreatDoorB21
set_option maxHeartbeats 16000000
set_option maxRecDepth 100000
set_option linter.unusedVariables false
set_option linter.unusedSimpArgs false
namespace Go.Proofs.YtknicmmigbhpcaaGreatDoor
open Go.RowKit Go
def gF (base:Int)(ks:List PZ):Bool:=(decide (base=1) || decide (base=2)) && (decide (ks.length≤1) && mg true ks)
def qD (base:Int):List UInt8:=if base=2 then [98,111,111,108] else [105,110,116]
def fF:List PZ→List UInt8
 | []=>[]
 | e :: l=>[32,123]++e.text++[125]++fF l
def gG (base:Int)(ks:List PZ):List UInt8:=qD base++fF ks
theorem om:∀ a b:List PZ,fF (a++b)=fF a++fF b
 | [],b=>rfl
 | e :: a,b=>by rw[List.cons_append,fF,fF,om a b];simp
theorem Iq {ks:List PZ}{k:Nat}(h:k<ks.length):fF (ks.take (k+1))=fF (ks.take k)++([32,123]++ks[k].text++[125]):=by
 rw[List.take_succ_eq_append_getElem h,om];simp[fF]
theorem NV (ks:List PZ)(k:Nat):(fF (ks.take k)).length≤(fF ks).length:=by
 conv=>rhs;rw[← List.take_append_drop k ks,om,bN]
 omega
theorem jI.below {B:Nat}{w W:World}{ae:Option Addr}{ks:List PZ}(h:jI B w ae ks)(hW:Below w.heap.size w W):jI B W ae ks:=fun h0=>by
 obtain⟨b,off,q1,q2,q3,q4⟩:=h h0;refine⟨b,off,q1,q2,Nat.lt_of_lt_of_le q3 hW.size,fun i hi=>?_⟩;obtain⟨Eo,wn',Ep,xP,xQ,q5,q6⟩:=q4 i hi;exact⟨Eo,wn',Ep,xP,xQ,q5.frame (aQ.of hW),fun j u hu=>(hW.cell (p:=⟨b,off+i * 8+j,none⟩) q3).trans (q6 j u hu)⟩
theorem l6 {B:Nat}{w:World}{kv:Value}{zs:List PZ}(h:RowK (ZK YA) (fun b=>b<B) w kv zs):∃ ao cap,kv=.slice ao zs.length cap∧jI B w ao zs:=by
 obtain⟨ao,cap,hv,_,hf⟩:=h.form;refine⟨ao,cap,hv,fun h0=>?_⟩;obtain⟨b,off,h1,h2,h3,h4⟩:=hf h0;refine⟨b,off,h1,h2,h3,fun i hi=>?_⟩;obtain⟨x,h5,h6⟩:=h4 i hi;have h5':oI YA (fun b=>b<B) w x.1 x.2 zs[i]:=h5;obtain⟨am,wn,cm,ak,ck,e1,e2⟩:=h5'.YQ;refine⟨am,wn,cm,ak,ck,by rw[← e1,← e2];exact h5',fun j u hu=>h6 j u ?_⟩;show (YA.cells zs[i] x.1 x.2)[j]?=some u;rw[e1,e2];exact hu
theorem KL (x:PZ)(hf:x.fit)(B:Nat)(w:World)(hB:B≤w.heap.size):Vp 126 #[] (fun x=>!x.right true) B w x:=by
 intro W am wn cm ak ck hW hE;have hs:=hW.size;have hz:=(PZ.pq hf).2.2.2.1;have hbx:=aj W (.cells (aU x.op ⟨x.name.toArray⟩ ⟨x.module.toArray⟩ (decide (x.num<0)) (.slice am wn cm) x.yes (.slice ak x.kids.length ck) x.at_) 46);have HX:=ah (CU true _ x (Nat.lt_succ_self _) hf B am wn cm ak ck (W.alloc (.cells (aU x.op ⟨x.name.toArray⟩ ⟨x.module.toArray⟩ (decide (x.num<0)) (.slice am wn cm) x.yes (.slice ak x.kids.length ck) x.at_) 46)) (hE.frame (aQ.of hbx)) (by simp;omega) (by omega));have hN:=heap_alloc_new W (.cells (aU x.op ⟨x.name.toArray⟩ ⟨x.module.toArray⟩ (decide (x.num<0)) (.slice am wn cm) x.yes (.slice ak x.kids.length ck) x.at_) 46)
 show Calls _ _ #[_] _ fun r w'=>r=.returned (.bool (!x.right true))∧Below W.heap.size W w'
 generalize x.right true=rb at *;clear hE hz hf;go_enter Tryz.func126,Tryz.ntmps126
 go_upto_region 1 with fail
 change Code.wp _ _ _ _ (W.alloc (.cells (aU x.op ⟨x.name.toArray⟩ ⟨x.module.toArray⟩ (decide (x.num<0)) (.slice am wn cm) x.yes (.slice ak x.kids.length ck) x.at_) 46));generalize W.alloc _=w0 at hbx hN HX ⊢;obtain⟨y0,y1,y2,y3,y4,y5,y6,y7⟩:=aG hN;go_wp2_with (go_at_call 127;refine HX.out.mono ?_;rintro r w1 ⟨rfl,hb1⟩);go_ret;exact⟨rfl,hbx.trans (hb1.mono hbx.size)⟩
theorem KM (base:Int)(B:Nat)(ae:Option Addr)(ce:Nat)(ks:List PZ)(w:World)(hk:jI B w ae ks)(hB:B≤w.heap.size)(hn:ks.length≤1099511627776)(hf:∀ x∈ks,x.fit) :
  Calls Tryz.prog 75 #[.int .i64 base,.slice ae ks.length ce] w fun r w'=>r=.returned (.bool (gF base ks))∧Below w.heap.size w w':=by
 have HC:=ah (fun W (hW:Below w.heap.size w W)=>mo 126 #[] (fun x=>!x.right true) (enters_of Tryz.func126 (by kernel_rfl) rfl) B ae ce ks W (hk.below hW) (Nat.le_trans hB hW.size) hn fun x hx=>KL x (hf x hx) B W (Nat.le_trans hB hW.size))
 have hdef:gF base ks=((decide (base=1) || decide (base=2)) && (decide (ks.length≤1) && !(ks.any fun x=>!x.right true))):=by rw[gF,vV]
 rw[hdef];clear hdef hk hf;generalize (ks.any fun x=>!x.right true)=an at *;generalize ks.length=n at *
 by_cases h1:n≤1
 ·have h1I:(n:Int)≤1:=by omega
  rw[decide_eq_true h1,Bool.true_and];clear h1
  by_cases hb1:base=1
  ·subst hb1
   rw[decide_eq_true rfl,Bool.true_or,Bool.true_and];go_enter Tryz.func75,Tryz.ntmps75;go_wp2_with (go_at_call 95;refine(HC.out _ (Below.refl _ _)).mono ?_;rintro r w5 ⟨rfl,hb5⟩);go_ret;exact⟨rfl,hb5⟩
  ·have ht1:(base == 1)=false:=beq_eq_false_iff_ne.2 hb1
   by_cases hb2:base=2
   ·subst hb2
    rw[decide_eq_false (by decide),decide_eq_true rfl,Bool.false_or,Bool.true_and];clear hb1;go_enter Tryz.func75,Tryz.ntmps75;go_wp2_with (go_at_call 95;refine(HC.out _ (Below.refl _ _)).mono ?_;rintro r w5 ⟨rfl,hb5⟩);go_ret;exact⟨rfl,hb5⟩
   ·have ht2:(base == 2)=false:=beq_eq_false_iff_ne.2 hb2
    rw[decide_eq_false hb1,decide_eq_false hb2,Bool.false_or,Bool.false_and];clear hb1 hb2 HC;go_enter Tryz.func75,Tryz.ntmps75;go_wp2;go_ret;exact⟨rfl,Below.refl _ _⟩
 ·have h1I:(1:Int)<(n:Int):=by omega
  rw[decide_eq_false h1,Bool.false_and,Bool.and_false];clear h1 HC
  by_cases hb1:base=1
  ·subst hb1
   go_enter Tryz.func75,Tryz.ntmps75;go_wp2;go_ret;exact⟨rfl,Below.refl _ _⟩
  ·have ht1:(base == 1)=false:=beq_eq_false_iff_ne.2 hb1
   by_cases hb2:base=2
   ·subst hb2
    clear hb1;go_enter Tryz.func75,Tryz.ntmps75;go_wp2;go_ret;exact⟨rfl,Below.refl _ _⟩
   ·have ht2:(base == 2)=false:=beq_eq_false_iff_ne.2 hb2
    clear hb1 hb2;go_enter Tryz.func75,Tryz.ntmps75;go_wp2;go_ret;exact⟨rfl,Below.refl _ _⟩
theorem KN (w:World):(Instr.index 217 (.agg #[.string ⟨#[]⟩,.string ⟨#[105,110,116]⟩,.string ⟨#[98,111,111,108]⟩]) (.int .i64 1)).run Tryz.prog w=.ok (.string ⟨#[105,110,116]⟩) w:=by kernel_rfl
theorem KO (w:World):(Instr.index 217 (.agg #[.string ⟨#[]⟩,.string ⟨#[105,110,116]⟩,.string ⟨#[98,111,111,108]⟩]) (.int .i64 2)).run Tryz.prog w=.ok (.string ⟨#[98,111,111,108]⟩) w:=by kernel_rfl
theorem NW {base:Int}(h:base=1∨base=2):∀ w:World,(Instr.index 217 (.agg #[.string ⟨#[]⟩,.string ⟨#[105,110,116]⟩,.string ⟨#[98,111,111,108]⟩]) (.int .i64 base)).run Tryz.prog w=.ok (.string ⟨(qD base).toArray⟩) w:=by
 rcases h with rfl|rfl
 ·exact KN
 ·exact KO
theorem NY (base:Int)(hbase:base=1∨base=2)(ks:List PZ)(B B' b:Nat)(ae:Option Addr)(ce:Nat)(acc:List UInt8)(w:World)(hk:∀ x∈ks,NP x)(h:jI B w ae ks)(mM:B≤B')(hbd:jO B' b acc w 155)(hB:B'≤w.heap.size)(hn:acc.length+(gG base ks).length≤1099511627776)(hkl:ks.length≤1000000) :
  Calls Tryz.prog 76 #[.pointer (some ⟨b,0,none⟩),.int .i64 base,.slice ae ks.length ce] w (bV B' b (acc++gG base ks) w):=by
 have HH:=ah h;have HK:=ah hk;have hix:=NW hbase;have hw1:=ah (iU ⟨(qD base).toArray⟩ B' b acc w hbd hB (by rw[gG,bN] at hn;show acc.length+(qD base).toArray.size≤_;simp only[List.size_toArray];omega))
 have hn2:(acc++qD base).length+(fF ks).length≤1099511627776:=by rw[gG,bN] at hn;rw[bN];omega
 have hfin:acc++gG base ks=(acc++qD base)++fF ks:=by rw[gG,List.append_assoc]
 rw[hfin];clear hfin hn h hk hbase;have hbs:(ByteArray.mk (qD base).toArray).data.toList=qD base:=rfl;rw[hbs] at hw1;clear hbs;have Vz:=ah hbd;clear hbd;generalize ByteArray.mk (qD base).toArray=BS at hix hw1;generalize acc++qD base=RX at *;go_enter Tryz.func76,Tryz.ntmps76
 go_upto_region 1 with (go_at_call 128;refine hw1.out.mono ?_;rintro r w1 h1;obtain rfl:=h1.eq)
 have hs1:=(jJ.start Vz.out).write h1;have H1:=ah h1;have XU:=ah (jJ.start hs1.qN);have hz1:=hs1.rU.size;clear hs1 h1 hix hw1;go_wp2
 go_loopw [16] (fun q wr=>∃ k:Nat,k≤ks.length∧q=.int .i64 k∧jJ w1 B' b (RX++fF (ks.take k)) wr) (fun q _=>ks.length - (intOf q).toNat)
 case atStart=>exact⟨0,Nat.zero_le _,rfl,by simpa [fF] using XU.out⟩
 case round =>
  obtain⟨k,hkk,rfl,st⟩:=hrel;have hz:=st.rU.size
  by_cases hlt:k<ks.length
  ·have hsn:=Iq hlt
   have hle:=NV ks (k+1);rw[hsn] at hle;have HD:=ah (HK.out _ (List.getElem_mem hlt));obtain⟨kb,off,F3,F6,F7,Jf,ck1,rfl,hkB,hE,x0,x1,x2,x3,x4,x5,x6,x7⟩:=HH.out.at ((H1.out.2.2.1.trans st.rU).mono mM) hlt;have pK:=ah hsn;have HST:=ah st;clear hsn st;generalize fF (ks.take k)=c at hle pK HST;generalize ks[k]=x at *
   have oH:(k:Int)<(ks.length:Int):=by omega
   simp only[bN,eG,List.length_nil] at hle
   have hl1:(RX++c).length+2≤1099511627776:=by rw[bN];omega
   have hl2:(RX++c++[32,123]).length+x.text.length+1≤1099511627776:=by simp only[bN,eG,List.length_nil];omega
   have hal:=aj wr (.cells (aU x.op ⟨x.name.toArray⟩ ⟨x.module.toArray⟩ (decide (x.num<0)) (.slice F3 F6 F7) x.yes (.slice Jf x.kids.length ck1) x.at_) 46);have hN:=heap_alloc_new wr (.cells (aU x.op ⟨x.name.toArray⟩ ⟨x.module.toArray⟩ (decide (x.num<0)) (.slice F3 F6 F7) x.yes (.slice Jf x.kids.length ck1) x.at_) 46);have s1:=HST.out.below hal (by omega);have hE1:=hE.frame (aQ.sQ (hal.mono (by omega:B'≤wr.heap.size)) (fun b hb=>by omega:∀ b,b<B→b<B'));clear hle hE
   go_upto_region 4 with fail
   change Code.wp _ _ _ _ (wr.alloc (.cells (aU x.op ⟨x.name.toArray⟩ ⟨x.module.toArray⟩ (decide (x.num<0)) (.slice F3 F6 F7) x.yes (.slice Jf x.kids.length ck1) x.at_) 46));clear x0 x1 x2 x3 x4 x5 x6 x7;generalize wr.alloc _=w2 at hal hN s1 hE1 ⊢;have hz2:=hal.size
   go_upto_region 5 with (go_at_call 128;refine(iU ⟨#[32,123]⟩ B' b (RX++c) w2 s1.qN (by omega) hl1).mono ?_;rintro r w3 h3;obtain rfl:=h3.eq)
   have s3:=s1.write h3;have hz3:=s3.rU.size;have PN:=s1.qN.block h3.2.2.2 hN (by decide) (by decide);obtain⟨y0,y1,y2,y3,y4,y5,y6,y7⟩:=aG PN;have hlx:=h3.2.2.1.size;have HX:=ah (HD.out B B' b F3 F6 F7 Jf ck1 (RX++c++[32,123]) w3 (hE1.frame (aQ.sQ h3.2.2.1 fun b hb=>by omega)) mM s3.qN (by omega) (by omega));have HS3:=ah s3;clear HST HD hal hN PN s1 hE1 s3 h3
   go_upto_region 6 with (go_at_call 129;refine HX.out.mono ?_;rintro r w4 h4;obtain rfl:=h4.eq)
   have s4:=HS3.out.write h4;have KI:=s4.rU.size;have HS4:=ah s4;have HW4:=ah (iU ⟨#[125]⟩ B' b (RX++c++[32,123]++x.text) w4 s4.qN (by omega) (by rw[bN];show _+1≤_;omega));clear HX HS3 s4 h4 y0 y1 y2 y3 y4 y5 y6 y7;go_wp2_with (go_at_call 128;refine HW4.out.mono ?_;rintro r w5 h5;obtain rfl:=h5.eq);refine⟨⟨k+1,by omega,by go_num,?_⟩,by simp[intOf];omega⟩;have:=HS4.out.write h5;rw[pK.out]
   simpa [List.append_assoc] using this
  ·obtain rfl:k=ks.length:=by omega
   have oH:decide ((ks.length:Int)<(ks.length:Int))=false:=decide_eq_false (by omega);rw[List.take_length] at st;have HST:=ah st;clear st;go_wp2
   go_end0
   exact⟨rfl,HST.out.qN,H1.out.2.2.1.trans HST.out.rU,H1.out.2.2.2.trans HST.out.kept⟩
def qE (base:Int)(ks:List PZ)(w:World)(r:Ending)(w':World):Prop:=(r=.returned (.tuple #[.string ⟨(if gF base ks=true then gG base ks else []).toArray⟩,.int .i64 (if gF base ks=true then 0 else 10)]))∧Below w.heap.size w w'
theorem VU (base:Int)(ks:List PZ):gG base ks≠[]:=by
 unfold gG qD
 split<;>simp
theorem vX (base:Int)(ks:List PZ)(B:Nat)(ae:Option Addr)(ce:Nat)(w:World)(h:jI B w ae ks)(hB:B≤w.heap.size)(hf:∀ x∈ks,x.fit)(hkl:ks.length≤1000000)(hn:(gG base ks).length≤1099511627776) :
  Calls Tryz.prog 49 #[.int .i64 base,.slice ae ks.length ce] w (qE base ks w):=by
 have HC:=ah (KM base B ae ce ks w h hB (by omega) hf);unfold qE
 cases hc:gF base ks with
 | false =>
  rw[hc] at HC;simp only[Bool.false_eq_true,if_false];clear h hf hn hc;go_enter Tryz.func49,Tryz.ntmps49;go_wp2_with (go_at_call 75;refine HC.out.mono ?_;rintro r w1 ⟨rfl,hb1⟩);go_ret2;exact⟨rfl,hb1⟩
 | true =>
  rw[hc] at HC;simp only[if_true];have hc':=hc;unfold gF at hc';simp only[Bool.and_eq_true,Bool.or_eq_true,decide_eq_true_eq] at hc';have hne:=VU base ks;have HT:=ah (fun (w2:World) (hW:Below w.heap.size w w2)=>NY base hc'.1 ks B w2.heap.size w2.heap.size ae ce [] (w2.alloc (.cells #[.pointer none,.slice none 0 0] 155)) (fun x hx=>Ga _ x (Nat.lt_succ_self _) (sN.1 hc'.2.2 x hx) (hf x hx)) ((h.below hW).below (aj w2 _)) (Nat.le_trans hB hW.size) (jO.fresh (T:=155) w2) (by simp) (by simpa using hn) hkl);clear h hf hn hc hc';generalize gG base ks=out at *;go_enter Tryz.func49,Tryz.ntmps49
  go_upto_region 3 with (go_at_call 75;refine HC.out.mono ?_;rintro r w2 ⟨rfl,hb2⟩)
  have HT2:=ah (HT.out w2 hb2);have hz2:=hb2.size;have hb3:=hb2.alloc hz2 (.cells #[.pointer none,.slice none 0 0] 155)
  have hz3:w2.heap.size<(w2.alloc (.cells #[.pointer none,.slice none 0 0] 155)).heap.size:=by simp
  clear HC HT
  go_upto_region 4 with fail
  change Code.wp _ _ _ _ (w2.alloc (.cells #[.pointer none,.slice none 0 0] 155));generalize w2.alloc _=w3 at HT2 hb3 hz3 ⊢
  go_upto_region 5 with (go_at_call 76;refine HT2.out.mono ?_;rintro r w4 h4;obtain rfl:=h4.eq)
  have Uf:=h4.2.1;rw[List.nil_append] at Uf;have lQ:=hb3.trans (h4.2.2.1.mono hz2);have Q6:(⟨w2.heap.size,0,none⟩:Addr).block<w4.heap.size:=Uf.lt;have HS:=ah (VT w2.heap.size w2.heap.size out w4 Uf hne);clear Uf h4 HT2;go_wp2_with (go_at_call 77;refine HS.out.mono ?_;rintro r w5 ⟨rfl,hb5⟩);go_ret2;exact⟨rfl,lQ.trans (hb5.mono hz2)⟩
structure ZF where
 name:List UInt8
 base:Int
 clause:List PZ
 at_:Int
 bare:Int
structure ZD where
 pub:Bool
 params:List ZF
 res:ZF
 body:PZ
structure ZP where
 imports:List (List UInt8 × Int)
 defs:List ZD
def ZF.right (f:ZF):Bool:=dL f.name && gF f.base f.clause
def ZD.sound (d:ZD):Bool:=dL d.res.name && (decide (d.params.length≤8) && (!(d.params.any fun f=>!f.right) && (gF d.res.base d.res.clause && d.body.right false)))
def ZF.text (f:ZF):List UInt8:=f.name++[58,32]++gG f.base f.clause
def ZD.text (d:ZD):List UInt8:=(if d.pub=true then [112,117,98,32] else [])++([102,117,110,32]++d.res.name++[40])++bg (d.params.map ZF.text)++[41,58,32]++gG d.res.base d.res.clause++[32,61,32]++d.body.text++[59,10]
def Y7 (m:List UInt8 × Int):List UInt8:=[105,109,112,111,114,116,32]++m.1++[59,10]
def ZP.right (p:ZP):Bool:=decide (p.imports.length≤16) && (decide (p.defs.length≤64) && (p.imports.all (fun m=>dL m.1) && p.defs.all ZD.sound))
def ZP.text (p:ZP):List UInt8:=p.imports.flatMap Y7++p.defs.flatMap ZD.text
def ZF.fit (f:ZF):Prop:=f.name.length≤65536∧f.clause.length≤1000000∧∀ e∈f.clause,e.fit
def ZD.fit (d:ZD):Prop:=d.params.length≤1000000∧(∀ f∈d.params,f.fit)∧d.res.fit∧d.body.fit
def ZP.fit (p:ZP):Prop:=p.imports.length≤1000000∧(∀ m∈p.imports,m.1.length≤65536)∧p.defs.length≤1000000∧∀ d∈p.defs,d.fit
def ZFK:RK ZF Value where
 sz:=5
 cells f cv:=[dh f.name,.int .i64 f.base,cv,.int .i64 f.at_,.int .i64 f.bare]
 inn P w f cv:=RowK (ZK YA) P w cv f.clause
 len _ _:=rfl
 frame h ha:=h.frame ha
 imp h hq:=h.imp hq
def ZDK:RK ZD DV where
 sz:=15
 cells d x:=[.bool d.pub,dh d.res.name,x.pv,.int .i64 d.res.base,x.cv,.int .i64 d.body.op,dh d.body.name,dh d.body.module,.bool (decide (d.body.num<0)),x.m,.bool d.body.yes,x.k,.int .i64 d.body.at_,.int .i64 d.res.at_,.int .i64 d.res.bare]
 inn P w d x:=RowK ZFK P w x.pv d.params∧RowK (ZK YA) P w x.cv d.res.clause∧oI YA P w x.m x.k d.body
 len _ _:=rfl
 frame h ha:=⟨h.1.frame ha,h.2.1.frame ha,h.2.2.frame ha⟩
 imp h hq:=⟨h.1.imp hq,h.2.1.imp hq,h.2.2.imp hq⟩
def PO (B:Nat)(w:World)(ae:Option Addr)(fs:List ZF):Prop:=0<fs.length→∃ b off,ae=some ⟨b,off,none⟩∧b<B∧b<w.heap.size∧∀ i,(hi:i<fs.length)→∃ ac cc,jI B w ac fs[i].clause∧w.cell? ⟨b,off+i * 5,none⟩=some (.string ⟨fs[i].name.toArray⟩)∧w.cell? ⟨b,off+i * 5+1,none⟩=some (.int .i64 fs[i].base)∧w.cell? ⟨b,off+i * 5+2,none⟩=some (.slice ac fs[i].clause.length cc)∧w.cell? ⟨b,off+i * 5+3,none⟩=some (.int .i64 fs[i].at_)∧w.cell? ⟨b,off+i * 5+4,none⟩=some (.int .i64 fs[i].bare)
theorem jI.sQ {B:Nat}{w W:World}{ae:Option Addr}{ks:List PZ}(h:jI B w ae ks)(hW:Below B w W):jI B W ae ks:=fun h0=>by
 obtain⟨b,off,q1,q2,q3,q4⟩:=h h0;refine⟨b,off,q1,q2,Nat.lt_of_lt_of_le q3 hW.size,fun i hi=>?_⟩;obtain⟨Eo,wn',Ep,xP,xQ,q5,q6⟩:=q4 i hi;exact⟨Eo,wn',Ep,xP,xQ,q5.frame (aQ.sQ hW fun b hb=>hb),fun j u hu=>(hW.cell (p:=⟨b,off+i * 8+j,none⟩) q2).trans (q6 j u hu)⟩
theorem PO.sQ {B:Nat}{w W:World}{ae:Option Addr}{ks:List ZF}(h:PO B w ae ks)(hW:Below B w W):PO B W ae ks:=fun h0=>by
 obtain⟨b,off,q1,q2,q3,q4⟩:=h h0;refine⟨b,off,q1,q2,Nat.lt_of_lt_of_le q3 hW.size,fun i hi=>?_⟩;obtain⟨ac,cc,q5,c0,c1,c2,c3,c4⟩:=q4 i hi;exact⟨ac,cc,q5.sQ hW,(hW.cell (p:=⟨b,off+i * 5,none⟩) q2).trans c0,(hW.cell (p:=⟨b,off+i * 5+1,none⟩) q2).trans c1,(hW.cell (p:=⟨b,off+i * 5+2,none⟩) q2).trans c2,(hW.cell (p:=⟨b,off+i * 5+3,none⟩) q2).trans c3,(hW.cell (p:=⟨b,off+i * 5+4,none⟩) q2).trans c4⟩
theorem Ir {w:World}{b:Nat}{c0 c1 c2 c3 c4:Value}(h:w.heap[b]?=some (.cells #[c0,c1,c2,c3,c4] 80 (0,0))):w.cell? ⟨b,0,none⟩=some c0∧w.cell? ⟨b,1,none⟩=some c1∧w.cell? ⟨b,2,none⟩=some c2∧w.cell? ⟨b,3,none⟩=some c3∧w.cell? ⟨b,4,none⟩=some c4:=by
 refine⟨?_,?_,?_,?_,?_⟩<;>(rw[Lib.cell_of_heap h];rfl)
end Go.Proofs.YtknicmmigbhpcaaGreatDoor

namespace Go.Proofs.YtknicmmigbhpcaaGreatDoor
abbrev Fl:=Option (Int × Int)
def sw:Fl→Fl→Fl
 | none,b=>b
 | some x,_=>some x
theorem xU (a:Fl):sw a none=a:=by cases a<;>rfl
theorem zw (a b c:Fl):sw (sw a b) c=sw a (sw b c):=by cases a<;>rfl
structure SE where
 imps:List (List UInt8)
 arity:List UInt8→Option Nat
 ext:List UInt8→List UInt8→Option Nat
def CZ (o:Option Nat)(n:Nat)(a:Int):Fl:=match o with
 | none=>some (31,a)
 | some k=>if k=n then none else some (32,a)
def Gg (E:SE)(nm md:List UInt8)(n:Nat)(a:Int):Fl :=
 if md=[] then CZ (E.arity nm) n a else if md∈E.imps then CZ (E.ext md nm) n a else some (33,a)
def tO (E:SE)(bd:List (List UInt8))(res:Bool)(op:Int)(nm md:List UInt8)(n:Nat)(a:Int):Fl :=
 if (op=3∧nm ∉ bd)∨(op=4∧res=false) then some (31,a) else if op=24 then Gg E nm md n a else none
def KP (op:Int)(nm:List UInt8)(bd:List (List UInt8))(i:Nat):List (List UInt8):=if op=22∧i=1 then bF (bd++[nm]) else bd
mutual
def PZ.kZ (E:SE)(bd:List (List UInt8))(res:Bool):PZ→Fl
 | .mk op nm md _ _ kids a=>sw (tO E bd res op nm md kids.length a) (fO E op nm bd res 0 kids)
def fO (E:SE)(op:Int)(nm:List UInt8)(bd:List (List UInt8))(res:Bool):Nat→List PZ→Fl
 | _,[]=>none
 | i,e :: l=>sw (e.kZ E (KP op nm bd i) res) (fO E op nm bd res (i+1) l)
end
theorem PZ.NZ (E:SE)(bd:List (List UInt8))(res:Bool)(e:PZ):e.kZ E bd res=sw (tO E bd res e.op e.name e.module e.kids.length e.at_) (fO E e.op e.name bd res 0 e.kids):=by cases e;rw[PZ.kZ];rfl
theorem xV (E:SE)(op:Int)(nm:List UInt8)(bd:List (List UInt8))(res:Bool)(e:PZ):∀ (l:List PZ) (i:Nat),fO E op nm bd res i (l++[e])=sw (fO E op nm bd res i l) (e.kZ E (KP op nm bd (i+l.length)) res)
 | [],i=>by rw[List.nil_append,fO,fO,fO,xU];rfl
 | x :: l,i=>by
  rw[List.cons_append,fO,fO,xV E op nm bd res e l (i+1),zw,eG,show i+1+l.length=i+(l.length+1) by omega]
theorem Iu (E:SE)(op:Int)(nm:List UInt8)(bd:List (List UInt8))(res:Bool){l:List PZ}{k:Nat}(h:k<l.length) :
  fO E op nm bd res 0 (l.take (k+1))=sw (fO E op nm bd res 0 (l.take k)) (l[k].kZ E (KP op nm bd k) res):=by
 rw[List.take_succ_eq_append_getElem h,xV,List.length_take,Nat.min_eq_left (Nat.le_of_lt h),Nat.zero_add]
def C8 (E:SE)(bd:List (List UInt8))(res:Bool):List PZ→Fl
 | []=>none
 | e :: l=>sw (e.kZ E bd res) (C8 E bd res l)
def Iw (E:SE)(s:List (List UInt8) × Fl):List ZF→List (List UInt8) × Fl
 | []=>s
 | f :: l=>Iw E (bF (s.1++[f.name]),sw (sw s.2 (if f.name∈s.1 then some (30,f.at_) else none)) (C8 E (bF (s.1++[f.name])) false f.clause)) l
def acJ (E:SE)(f:Fl)(d:ZD):Fl :=
 sw (sw (Iw E ([],f) d.params).2 (C8 E (Iw E ([],f) d.params).1 true d.res.clause)) (d.body.kZ E (Iw E ([],f) d.params).1 false)
def VW (E:SE)(f:Fl):List ZD→Fl
 | []=>f
 | d :: l=>VW E (acJ E f d) l
def N7 (own:List UInt8)(face:List UInt8→Bool)(s:List (List UInt8) × Fl):List (List UInt8 × Int)→List (List UInt8) × Fl
 | []=>s
 | m :: l=>N7 own face (bF (s.1++[m.1]),sw s.2 (if m.1=own then some (33,m.2) else if m.1∈s.1 then some (30,m.2) else if face m.1=true then none else some (33,m.2))) l
def nE (l:List ZD)(nm:List UInt8):Option Nat:=(l.find? fun d=>decide (d.res.name=nm)).map fun d=>d.params.length
def PS (f:Fl):List (List UInt8)→List ZD→Fl
 | _,[]=>f
 | seen,d :: l=>PS (sw f (if d.res.name∈seen then some (30,d.res.at_) else none)) (seen++[d.res.name]) l
def ZP.se (p:ZP)(own:List UInt8)(face:List UInt8→Bool)(ext:List UInt8→List UInt8→Option Nat):SE:=⟨(N7 own face ([],none) p.imports).1,nE p.defs,ext⟩
def ZP.kZ (p:ZP)(own:List UInt8)(face:List UInt8→Bool)(ext:List UInt8→List UInt8→Option Nat):Fl :=
 VW (p.se own face ext) (PS (N7 own face ([],none) p.imports).2 [] p.defs) p.defs
end Go.Proofs.YtknicmmigbhpcaaGreatDoor

namespace Go.Proofs.YtknicmmigbhpcaaGreatDoor
end Go.Proofs.YtknicmmigbhpcaaGreatDoor

namespace Go.Proofs.YtknicmmigbhpcaaGreatDoor
theorem RY (op:Int):(qc op).length≤2:=by
 unfold qc;generalize op.toNat - 7=i
 have h:∀ x∈([[43],[45],[42],[47],[37],[61],[60,62],[60],[60,61],[62],[62,61],[38,38],[124,124],[61,62]]:List (List UInt8)),x.length≤2:=by decide
 rw[List.getD_eq_getElem?_getD]
 cases hx:([[43],[45],[42],[47],[37],[61],[60,62],[60],[60,61],[62],[62,61],[38,38],[124,124],[61,62]]:List (List UInt8))[i]? with
 | none=>simp
 | some x=>exact h x (List.mem_of_getElem? hx)
theorem xW (l:Int)(k:Int × List UInt8):(oJ l k).length≤k.2.length+2:=by
 unfold oJ
 split
 ·simp only[bN,eG,List.length_nil];omega
 ·omega
def xX:List (Int × List UInt8)→Nat
 | []=>0
 | k :: l=>k.2.length+xX l
theorem N8:∀ ks:List (Int × List UInt8),(ks.getD 0 (0,[])).2.length+(ks.getD 1 (0,[])).2.length+(ks.getD 2 (0,[])).2.length≤xX ks
 | []=>by simp[xX]
 | [a]=>by simp[xX]
 | [a,b]=>by simp[xX]
 | a :: b :: c :: l=>by simp[xX];omega
theorem C9:∀ ks:List (Int × List UInt8),(bg (ks.map Prod.snd)).length≤xX ks+2 * ks.length
 | []=>by simp[bg,xX]
 | [a]=>by simp[bg,xX]
 | a :: b :: l=>by
  have h:=C9 (b :: l);simp only[List.map_cons,bg,bN,eG,List.length_nil,xX] at h ⊢;omega
theorem RZ (op:Int)(nm md:List UInt8)(num:Int)(yes:Bool)(ks:List (Int × List UInt8))(h1:nm.length≤65536)(h2:md.length≤65536)(h3:(iZ num).length≤61)(h4:ks.length≤65536):(lD op nm md num yes ks).length≤xX ks+300000:=by
 have h5:=N8 ks;have h6:=C9 ks;have h7:=RY op;have p1:=xW 9 (ks.getD 0 (0,[]));have p2:=xW 4 (ks.getD 0 (0,[]));have p3:=xW (sM op) (ks.getD 0 (0,[]));have p4:=xW (wV op) (ks.getD 1 (0,[]))
 have hm:(if md=[] then [] else md++[46]).length≤65537:=by
  split
  ·simp
  ·simp only[bN,eG,List.length_nil];omega
 unfold lD;generalize (if md=[] then [] else md++[46])=mm at hm ⊢
 repeat' split
 all_goals ((try simp only[bN,eG,List.length_nil]);omega)
theorem KQ:∀ (k n:Nat),n<10 ^ (k+1)→(fJ n).length≤k+1
 | 0,n,h=>by
  rw[fJ,dif_pos (by omega)]
  simp
 | k+1,n,h=>by
  rw[fJ]
  split
  ·simp
  ·rw[bN,List.length_singleton]
   have:=KQ k (n / 10) (by rw[Nat.pow_succ] at h;omega);omega
theorem VX {n:Int}(h:n.natAbs<10 ^ 60):(iZ n).length≤61:=by
 unfold iZ;rw[bN];have:=KQ 59 n.natAbs h
 split
 ·simp only[eG,List.length_nil];omega
 ·simp only[List.length_nil];omega
mutual
theorem PZ.Da:∀ e:PZ,e.fit→e.text.length≤300000 * e.size
 | .mk op nm md num yes kids at_,h=>by
  rw[PZ.fit] at h;obtain⟨h1,h2,h3,h4,h5⟩:=h;have hs:=xY kids h5
  have hl:(gK kids).length=kids.length:=by rw[nU,List.length_map]
  have:=RZ op nm md num yes (gK kids) h1 h2 (VX h3) (by omega);rw[PZ.text,PZ.size];omega
theorem xY:∀ l:List PZ,Ij l→xX (gK l)≤300000 * rQ l
 | [],_=>by simp[gK,xX]
 | e :: l,h=>by
  rw[Ij] at h;have h1:=PZ.Da e h.1;have h2:=xY l h.2;rw[gK,xX,rQ];simp only;omega
end
theorem PU {nodes:List Nd}:∀ (l:List PT) (ks:List Int) (u:Nat),dW nodes ks u l→ks.length=l.length∧∀ j,(h1:j<ks.length)→(h2:j<l.length)→lM nodes ks[j] (u+bB (l.take j)) l[j]
 | [],ks,u,h=>by
  rw[dW] at h;subst h;exact⟨rfl,fun j h1=>absurd h1 (by simp)⟩
 | i :: l,ks,u,h=>by
  rw[dW] at h;obtain⟨k,ks',rfl,h1,h2⟩:=h;obtain⟨h3,h4⟩:=PU l ks' _ h2;refine⟨by simp[h3],fun j q1 q2=>?_⟩
  cases j with
  | zero=>simpa [bB] using h1
  | succ j =>
   have:=h4 j (by simpa using q1) (by simpa using q2);rw[List.take_succ_cons,bB,← Nat.add_assoc];exact this
theorem KR:∀ (l:List PT) (j:Nat) (h:j<l.length),bB (l.take j)+l[j].lv≤bB l
 | [],j,h=>absurd h (by simp)
 | i :: l,0,h=>by simp[bB]
 | i :: l,j+1,h=>by
  have:=KR l j (by simpa using h);rw[List.take_succ_cons,bB,bB];simp only[List.getElem_cons_succ];omega
theorem Db (toks:List Tok):∀ (n u j:Nat) (h:j<(mX toks u n).length),(mX toks u n)[j]=(aI toks (u+3 * j+1),cB toks (u+3 * j+1))
 | 0,u,j,h=>absurd h (by simp[mX])
 | n+1,u,0,h=>rfl
 | n+1,u,j+1,h=>by
  have:=Db toks n (u+3) j (by simpa [mX] using h);simp only[mX,List.getElem_cons_succ,this];rw[show u+3+3 * j+1=u+3 * (j+1)+1 by omega]
theorem Dc (toks:List Tok):∀ (l:List cK) (u j:Nat) (h:j<l.length) (h2:j<(jS toks u l).length),(jS toks u l)[j]=l[j].dd toks (u+bB ((l.take j).map cK.pt))
 | [],u,j,h,_=>absurd h (by simp)
 | d :: l,u,0,h,_=>by simp[jS,bB]
 | d :: l,u,j+1,h,h2=>by
  have:=Dc toks l (u+d.pt.lv) j (by simpa using h) (by simpa [jS] using h2);simp only[jS,List.getElem_cons_succ,this,List.take_succ_cons,List.map_cons,bB,Nat.add_assoc]
theorem Df {toks:List Tok}:∀ (l:List cK) (u j:Nat) (h:j<l.length),yY toks u l→l[j].ok toks (u+bB ((l.take j).map cK.pt))
 | [],u,j,h,_=>absurd h (by simp)
 | d :: l,u,0,h,ho=>by simpa [bB] using ho.1
 | d :: l,u,j+1,h,ho=>by
  have:=Df l (u+d.pt.lv) j (by simpa using h) ho.2
  simpa [bB,Nat.add_assoc] using this
theorem jP.Y8 (p:jP)(j:Nat)(h:j<p.imps):∃ h2:j<p.kids.length,p.kids[j]=tF∧bB (p.kids.take j)=3 * j:=by
 have h2:j<p.kids.length:=by simp only[jP.kids,bN,List.length_replicate];omega
 refine⟨h2,?_,?_⟩
 ·simp only[jP.kids]
  rw[List.getElem_append_left (by simpa using h),List.getElem_replicate]
 ·simp only[jP.kids]
  rw[List.take_append_of_le_length (by simp;omega),List.take_replicate,AV,Nat.min_eq_left (by omega)]
theorem jP.Y9 (p:jP)(j:Nat)(h:j<p.defs.length):∃ h2:p.imps+j<p.kids.length,p.kids[p.imps+j]=p.defs[j].pt∧bB (p.kids.take (p.imps+j))=3 * p.imps+bB ((p.defs.take j).map cK.pt):=by
 have h2:p.imps+j<p.kids.length:=by simp only[jP.kids,bN,List.length_replicate,List.length_map];omega
 refine⟨h2,?_,?_⟩
 ·simp only[jP.kids]
  rw[List.getElem_append_right (by simp),List.getElem_append_left (by simp;omega)]
  simp
 ·simp only[jP.kids]
  rw[List.take_append,List.take_of_length_le (by simp),iw,AV,List.length_replicate,Nat.add_sub_cancel_left,List.take_append_of_le_length (by simp;omega),List.map_take]
theorem jP.Za (p:jP):∃ h2:p.imps+p.defs.length<p.kids.length,p.kids[p.imps+p.defs.length]=.leaf:=by
 have h2:p.imps+p.defs.length<p.kids.length:=by simp only[jP.kids,bN,List.length_replicate,List.length_map,List.length_singleton];omega
 refine⟨h2,?_⟩;simp only[jP.kids];rw[List.getElem_append_right (by simp),List.getElem_append_right (by simp)]
 simp
theorem jP.VY (p:jP):p.kids.length=p.imps+p.defs.length+1:=by
 simp only[jP.kids,bN,List.length_replicate,List.length_map,List.length_singleton];omega
inductive It where
 | leaf
 | expr (e:CE)
 | par (t:eD)
 | base
 | cl (e:CE)
def It.pt:It→PT
 | .leaf=>.leaf
 | .expr e=>e.pt
 | .par t=>t.par
 | .base=>.node 5 [.leaf]
 | .cl e=>.node 6 [.leaf,e.pt,.leaf]
structure VZ where
 base:Nat
 clause:List PE
 bare:Int
def It.step (toks:List Tok)(u:Nat):It→VZ→VZ
 | .base,a=>⟨if aI toks u=xC then 2 else 1,a.clause,((cB toks u+(aI toks u).length:Nat):Int)⟩
 | .cl e,a=>⟨a.base,[e.pe toks (u+1)],-1⟩
 | _,a=>a
def lg (toks:List Tok):Nat→List It→VZ→VZ
 | _,[],a=>a
 | u,i :: l,a=>lg toks (u+i.pt.lv) l (i.step toks u a)
theorem kG (toks:List Tok):∀ (l k:List It) (u:Nat) (a:VZ),lg toks u (l++k) a=lg toks (u+bB (l.map It.pt)) k (lg toks u l a)
 | [],k,u,a=>by simp[lg,bB]
 | i :: l,k,u,a=>by
  rw[List.cons_append,lg,kG toks l k,lg,List.map_cons,bB,Nat.add_assoc]
def eP (toks:List Tok):Nat→List It→List FF
 | _,[]=>[]
 | u,.par t :: l=>t.tJ toks u :: eP toks (u+(It.par t).pt.lv) l
 | u,i :: l=>eP toks (u+i.pt.lv) l
theorem fT (toks:List Tok):∀ (l k:List It) (u:Nat),eP toks u (l++k)=eP toks u l++eP toks (u+bB (l.map It.pt)) k
 | [],k,u=>by simp[eP,bB]
 | .par t :: l,k,u=>by
  rw[List.cons_append,eP,fT toks l k,eP,List.map_cons,bB,Nat.add_assoc,List.cons_append]
 | .leaf :: l,k,u=>by
  rw[List.cons_append,eP,fT toks l k,eP,List.map_cons,bB,Nat.add_assoc]<;>simp
 | .base :: l,k,u=>by
  rw[List.cons_append,eP,fT toks l k,eP,List.map_cons,bB,Nat.add_assoc]<;>simp
 | .expr e :: l,k,u=>by
  rw[List.cons_append,eP,fT toks l k,eP,List.map_cons,bB,Nat.add_assoc]<;>simp
 | .cl e :: l,k,u=>by
  rw[List.cons_append,eP,fT toks l k,eP,List.map_cons,bB,Nat.add_assoc]<;>simp
def eD.its (t:eD):List It:=[.leaf,.base]++(match t.cl with|none=>[]|some e=>[.cl e])
theorem eD.Dg (t:eD):t.its.map It.pt=t.pts:=by
 unfold eD.its eD.pts
 cases t.cl<;>rfl
def eD.oo (t:eD):List It:=.leaf :: t.its
theorem eD.Sb (t:eD):t.par=.node 4 (t.oo.map It.pt):=by
 rw[eD.par,eD.oo,List.map_cons,t.Dg]
 rfl
def fA:List eD→List It
 | []=>[]
 | t :: l=>.par t :: (match l with | []=>[]|_ :: _=>.leaf :: fA l)
theorem qF:∀ l:List eD,(fA l).map It.pt=jH (l.map eD.par)
 | []=>rfl
 | [t]=>rfl
 | t :: s :: l=>by
  have:=qF (s :: l);rw[show fA (t :: s :: l)=.par t :: .leaf :: fA (s :: l) from by rw[fA],List.map_cons,List.map_cons,this];show _=jH (t.par :: s.par :: l.map eD.par);rw[qj]
  rfl
def cK.eU (d:cK):List It:=if d.pub=true then [.leaf] else []
def cK.its (d:cK):List It:=d.eU++([.leaf,.leaf,.leaf]++(fA d.jR++([.leaf]++(d.ty.its++[.leaf,.expr d.body,.leaf]))))
theorem cK.Dg (d:cK):d.pt=.node 3 (d.its.map It.pt):=by
 have h:d.eU.map It.pt=d.lead:=by unfold cK.eU cK.lead;split<;>rfl
 rw[cK.pt,cK.kids,cK.its];simp only[List.map_append,h,qF,d.ty.Dg,List.map_cons,List.map_nil,It.pt]
theorem nM (toks:List Tok):∀ (l:List It) (u:Nat) (a:VZ),(∀ i∈l,(i matches .leaf)∨(i matches .par _)∨(i matches .expr _))→lg toks u l a=a
 | [],u,a,_=>rfl
 | i :: l,u,a,h=>by
  rw[lg,nM toks l _ _ fun x hx=>h x (List.mem_cons_of_mem _ hx)];have:=h i List.mem_cons_self
  cases i<;>simp_all [It.step]
theorem KS (toks:List Tok)(t:eD)(u:Nat)(name:List UInt8)(at_:Nat){b0:Nat}{y0:Int}:lg toks u t.its ⟨b0,[],y0⟩=⟨(t.ff toks u name at_).base,(t.ff toks u name at_).clause,(t.ff toks u name at_).bare⟩:=by
 unfold eD.its eD.ff
 cases t.cl with
 | none=>simp[lg,It.step,It.pt,PT.lv]
 | some e=>simp[lg,It.step,It.pt,PT.lv,bB]
theorem Dh:∀ l:List eD,∀ i∈fA l,(i matches .leaf)∨(i matches .par _)∨(i matches .expr _)
 | [],i,h=>by rw[fA] at h;cases h
 | [t],i,h=>by
  rw[fA,List.mem_singleton] at h;subst h;exact .inr (.inl rfl)
 | t :: s :: l,i,h=>by
  rw[show fA (t :: s :: l)=.par t :: .leaf :: fA (s :: l) from by rw[fA],List.mem_cons,List.mem_cons] at h
  rcases h with rfl|rfl|h
  ·exact .inr (.inl rfl)
  ·exact .inl rfl
  ·exact Dh (s :: l) i h
theorem eD.Zb (toks:List Tok)(t:eD)(u:Nat){b0:Nat}{y0:Int}:lg toks u t.oo ⟨b0,[],y0⟩=⟨(t.tJ toks u).base,(t.tJ toks u).clause,(t.tJ toks u).bare⟩:=by
 rw[eD.oo,lg,eD.tJ];exact KS toks t (u+1) _ _
theorem cK.typ (toks:List Tok)(d:cK)(u:Nat){b0:Nat}{y0:Int}:lg toks u d.its ⟨b0,[],y0⟩=⟨(d.dd toks u).res.base,(d.dd toks u).res.clause,(d.dd toks u).res.bare⟩:=by
 have h1:∀ i∈d.eU,(i matches .leaf)∨(i matches .par _)∨(i matches .expr _):=fun i h=>by
  unfold cK.eU at h
  split at h
  ·rw[List.mem_singleton] at h;subst h;exact .inl rfl
  ·cases h
 have h2:∀ i∈[It.leaf,.leaf,.leaf],(i matches .leaf)∨(i matches .par _)∨(i matches .expr _):=fun i h=>by
  simp only[List.mem_cons,List.not_mem_nil,or_false,or_self] at h;subst h;exact .inl rfl
 have h3:∀ i∈[It.leaf,.expr d.body,.leaf],(i matches .leaf)∨(i matches .par _)∨(i matches .expr _):=fun i h=>by
  simp only[List.mem_cons,List.not_mem_nil,or_false] at h
  rcases h with rfl|rfl|rfl
  ·exact .inl rfl
  ·exact .inr (.inr rfl)
  ·exact .inl rfl
 have h4:∀ i∈[It.leaf],(i matches .leaf)∨(i matches .par _)∨(i matches .expr _):=fun i h=>by
  rw[List.mem_singleton] at h;subst h;exact .inl rfl
 have hl:bB (d.eU.map It.pt)=bB d.lead:=by unfold cK.eU cK.lead;split<;>rfl
 rw[cK.its,kG,nM toks _ _ _ h1,kG,nM toks _ _ _ h2,kG,nM toks _ _ _ (Dh _),kG,nM toks _ _ _ h4,kG,nM toks _ _ _ h3]
 rw[show u+bB (d.eU.map It.pt)+bB ([It.leaf,.leaf,.leaf].map It.pt)+bB ((fA d.jR).map It.pt)+bB ([It.leaf].map It.pt)=d.at2 u by
  rw[hl,qF]
  simp only[cK.at2,cK.Cq,List.map_cons,List.map_nil,It.pt,bB,PT.lv]]
 exact KS toks d.ty _ _ _
theorem uJ (toks:List Tok):∀ (l:List It) (u:Nat),(∀ i∈l,¬ (i matches .par _))→eP toks u l=[]
 | [],u,_=>rfl
 | i :: l,u,h=>by
  have h1:=h i List.mem_cons_self
  have h2:=uJ toks l (u+i.pt.lv) fun x hx=>h x (List.mem_cons_of_mem _ hx)
  cases i with
  | par t=>simp at h1
  | leaf=>rw[eP];exact h2;simp
  | base=>rw[eP];exact h2;simp
  | expr e=>rw[eP];exact h2;simp
  | cl e=>rw[eP];exact h2;simp
theorem KT (toks:List Tok):∀ (l:List eD) (u:Nat),eP toks u (fA l)=j5 toks u l
 | [],u=>rfl
 | [t],u=>by rw[fA,eP,eP,j5,j5]
 | t :: s :: l,u=>by
  rw[show fA (t :: s :: l)=.par t :: .leaf :: fA (s :: l) from by rw[fA],eP,eP,KT toks (s :: l),j5]
  ·rfl
  ·simp
theorem cK.V3 (toks:List Tok)(d:cK)(u:Nat):eP toks u d.its=(d.dd toks u).params:=by
 have h1:∀ i∈d.eU,¬ (i matches .par _):=fun i h=>by
  unfold cK.eU at h
  split at h
  ·rw[List.mem_singleton] at h;subst h;simp
  ·cases h
 have h2:∀ i∈[It.leaf,.leaf,.leaf],¬ (i matches .par _):=fun i h=>by
  simp only[List.mem_cons,List.not_mem_nil,or_false,or_self] at h;subst h;simp
 have h3:∀ i∈([It.leaf]++(d.ty.its++[.leaf,.expr d.body,.leaf])),¬ (i matches .par _):=fun i h=>by
  unfold eD.its at h
  cases hc:d.ty.cl with
  | none =>
   rw[hc] at h;simp only[List.mem_append,List.mem_cons,List.not_mem_nil,or_false] at h
   rcases h with rfl|(rfl|rfl)|rfl|rfl|rfl<;>simp
  | some e =>
   rw[hc] at h;simp only[List.mem_append,List.mem_cons,List.not_mem_nil,or_false] at h
   rcases h with rfl|((rfl|rfl)|rfl)|rfl|rfl|rfl<;>simp
 have hl:bB (d.eU.map It.pt)=bB d.lead:=by unfold cK.eU cK.lead;split<;>rfl
 rw[cK.its,fT,uJ toks _ _ h1,fT,uJ toks _ _ h2,fT,uJ toks _ _ h3,KT,List.nil_append,List.nil_append,List.append_nil,hl];simp only[List.map_cons,List.map_nil,It.pt,bB,PT.lv]
 rfl
end Go.Proofs.YtknicmmigbhpcaaGreatDoor
