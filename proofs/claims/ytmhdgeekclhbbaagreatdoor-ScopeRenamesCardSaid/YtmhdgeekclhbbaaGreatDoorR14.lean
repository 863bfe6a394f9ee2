/- Walks and plain laws: ShowN0, TypedW, ShowPA, ScopePlain, BagW3, BagW4, BagW5, ScopeW1, ScopeW2, ScopeW3. -/
import Derived.Test.YtmhdgeekclhbbaaGreatDoorR13
set_option maxHeartbeats 16000000
set_option maxRecDepth 100000
set_option linter.unusedVariables false
set_option linter.unusedSimpArgs false
namespace Go.Proofs.YtmhdgeekclhbbaaGreatDoor
open Go.RowKit Go
theorem Y6 {T:TypeId}(B b:Nat)(acc:List UInt8)(w:World)(h:jY B b acc w T)(h0:acc≠[]) :
  Calls Tryz.prog 72 #[.pointer (some ⟨b,0,none⟩)] w fun e w'=>e=.returned (.string ⟨acc.toArray⟩)∧Below B w w':=by
 obtain⟨p,hB,v,hbk,hown,hne⟩:=h.at
 have hl0:acc.length≠0:=by simpa using h0
 rw[Lib.byteCells_length] at hown
 obtain⟨g,cap,cur,fz,rfl,hbg,hg,hfz,hnc,hcm,hcs,htake⟩:∃ g cap cur fz,v=.slice (some ⟨g,0,none⟩) acc.length cap∧B≤g∧w.heap[g]?=some (.cells cur 5 fz)∧fz.2≤acc.length * 1∧acc.length≤cap∧cap≤maxLen∧cur.size=cap * 1∧cur.toList.take (acc.length * 1)=Lib.byteCells acc:=by
  rcases hown.2 with ⟨_,hz⟩|⟨g,cap,cur,fz,hv,r⟩
  ·exact absurd hz hl0
  ·exact⟨g,cap,cur,fz,hv,r⟩
 have c1:w.drew.cell? ⟨b,1,none⟩=some (.slice (some ⟨g,0,none⟩) acc.length cap):=by
  have:w.drew.heap[b]?=some (.cells #[p,.slice (some ⟨g,0,none⟩) acc.length cap] T (0,0)):=hbk;rw[aV this];rfl
 have hSD:(Builtin.unsafeSliceData_ #[147] 215 #[.slice (some ⟨g,0,none⟩) acc.length cap]).run Tryz.prog w.drew=.ok (.pointer (some ⟨g,0,none⟩)) w.drew :=
  Lib.run_unsafeSliceData_row _ _ _ _ _ _ (by omega)
 have hUS:(Builtin.unsafeString_ #[215,3] 9 #[.pointer (some ⟨g,0,none⟩),.int .i64 acc.length]).run Tryz.prog w.drew=.ok (.string ⟨acc.toArray⟩) (w.drew.freeze ⟨g,0,none⟩ acc.length):=by
  refine Lib.run_unsafeString_row w.drew 215 3 9 5 (by kernel_rfl) (by kernel_rfl) g cur.size (by have hg':w.drew.heap[g]?=some (.cells cur 5 fz):=hg;simp[World.shape?,hg']) acc h0 (by omega) (by unfold maxLen at hcm;omega) ?_;intro j x hx;exact hown.cells (g:=g) rfl j (.int .u8 x.toNat) (by simp[Lib.byteCells,hx])
 clear h hne hown hbk htake hcs hcm hfz hg
 have mixed:Tryz.prog.follows .mixedOrders=true:=by kernel_rfl
 go_enter Tryz.func72,Tryz.ntmps72;go_wp2
 go_region_o
 all_goals (go_wp2;go_ret;exact⟨rfl,Lib.below_freeze (Below.drew (bI B w)) (p:=⟨g,0,none⟩) hbg _⟩)
structure InZ (e:PZ) (B:Nat) (am:Option Addr) (wn cm:Nat) (ae:Option Addr) (ce:Nat) (w:World):Prop where
 at_:nL YA (fun k=>k<B) w (.slice am wn cm) (.slice ae e.aA.length ce) e
 hB:B≤w.heap.size
 fit:e.fit
theorem InZ.below {e:PZ}{B:Nat}{am:Option Addr}{wn cm:Nat}{ae:Option Addr}{ce:Nat}{w w':World}(h:InZ e B am wn cm ae ce w)(hb:Below w.heap.size w w'):InZ e B am wn cm ae ce w':=⟨h.at_.frame (aW.of hb),jc h.hB hb.size,h.fit⟩
theorem Tq {fm:Bool}{e:PZ}(h:e.right fm=true):e.text≠[]:=by
 obtain⟨h1,h2⟩:=PZ.bytes (SizeOf.sizeOf e+1) e (by omega) h;have hok:=PZ.acu (SizeOf.sizeOf e+1) e (by omega) h [] (by intro c hc;cases hc)
 cases hp:e.sI with
 | nil=>exact absurd hp h2
 | cons p l =>
  rw[hp] at hok h1;have:=(Jc (r:=bq l++[]) hok.1 hok.2.1).2.2.1;rw[← h1,bq];intro q;have:=congrArg List.length q;simp only[bN,gX] at this;omega
def lG (base:Int)(ks:List PZ):Bool:=(decide (base=1) || decide (base=2)) && (decide (ks.length≤1) && j3 true ks)
def uW (base:Int):List UInt8:=if base=2 then [98,111,111,108] else [105,110,116]
def gI:List PZ→List UInt8
 | []=>[]
 | e :: l=>[32,123]++e.text++[125]++gI l
def kN (base:Int)(ks:List PZ):List UInt8:=uW base++gI ks
theorem qP:∀ a b:List PZ,gI (a++b)=gI a++gI b
 | [],b=>rfl
 | e :: a,b=>by rw[jN,gI,gI,qP a b];simp
theorem KH {ks:List PZ}{k:Nat}(h:k<ks.length):gI (ks.take (k+1))=gI (ks.take k)++([32,123]++ks[k].text++[125]):=by
 rw[Dg h,qP];simp[gI]
theorem Rs (ks:List PZ)(k:Nat):(gI (ks.take k)).length≤(gI ks).length:=by
 conv=>rhs;rw[← List.take_append_drop k ks,qP,bN]
 omega
theorem kK.below {B:Nat}{w W:World}{ae:Option Addr}{ks:List PZ}(h:kK B w ae ks)(hW:Below w.heap.size w W):kK B W ae ks:=fun h0=>by
 obtain⟨b,off,q1,q2,q3,q4⟩:=h h0;refine⟨b,off,q1,q2,Nat.lt_of_lt_of_le q3 hW.size,fun i hi=>?_⟩;obtain⟨Lr,wn',Ls,Kv,Kw,q5,q6⟩:=q4 i hi;exact⟨Lr,wn',Ls,Kv,Kw,q5.frame (aW.of hW),fun j u hu=>(hW.cell (p:=⟨b,off+i * 8+j,none⟩) q3).trans (q6 j u hu)⟩
theorem Jj {B:Nat}{w:World}{kv:Value}{zs:List PZ}(h:RowK (ZK YA) (fun b=>b<B) w kv zs):∃ ao cap,kv=.slice ao zs.length cap∧kK B w ao zs:=by
 obtain⟨ao,cap,hv,_,hf⟩:=h.form;refine⟨ao,cap,hv,fun h0=>?_⟩;obtain⟨b,off,h1,h2,h3,h4⟩:=hf h0;refine⟨b,off,h1,h2,h3,fun i hi=>?_⟩;obtain⟨x,h5,h6⟩:=h4 i hi;have h5':nL YA (fun b=>b<B) w x.1 x.2 zs[i]:=h5;obtain⟨am,wn,cm,ak,ck,e1,e2⟩:=h5'.slX;refine⟨am,wn,cm,ak,ck,by rw[← e1,← e2];exact h5',fun j u hu=>h6 j u ?_⟩;show (YA.cells zs[i] x.1 x.2)[j]?=some u;rw[e1,e2];exact hu
theorem Ol (x:PZ)(hf:x.fit)(B:Nat)(w:World)(hB:B≤w.heap.size):abF 121 #[] (fun x=>!x.right true) B w x:=by
 intro W am wn cm ak ck hW hE;have hs:=hW.size;have hz:=(PZ.kT hf).2.2.2.1;have hbx:=aB W (.cells (aQ x.op ⟨x.name.toArray⟩ ⟨x.module.toArray⟩ (decide (x.num<0)) (.slice am wn cm) x.yes (.slice ak x.aA.length ck) x.at_) 64);have HX:=ay (yR true _ x (Nat.lt_succ_self _) hf B am wn cm ak ck (W.alloc (.cells (aQ x.op ⟨x.name.toArray⟩ ⟨x.module.toArray⟩ (decide (x.num<0)) (.slice am wn cm) x.yes (.slice ak x.aA.length ck) x.at_) 64)) (hE.frame (aW.of hbx)) (by simp;omega) (by omega));have hN:=aY W (.cells (aQ x.op ⟨x.name.toArray⟩ ⟨x.module.toArray⟩ (decide (x.num<0)) (.slice am wn cm) x.yes (.slice ak x.aA.length ck) x.at_) 64)
 show Calls _ _ #[_] _ fun r w'=>r=.returned (.bool (!x.right true))∧Below W.heap.size W w'
 generalize x.right true=rb at *;clear hE hz hf;go_enter Tryz.func121,Tryz.ntmps121
 go_upto_region 1 with fail
 change Code.wp _ _ _ _ (W.alloc (.cells (aQ x.op ⟨x.name.toArray⟩ ⟨x.module.toArray⟩ (decide (x.num<0)) (.slice am wn cm) x.yes (.slice ak x.aA.length ck) x.at_) 64));generalize W.alloc _=w0 at hbx hN HX ⊢;obtain⟨y0,y1,y2,y3,y4,y5,y6,y7⟩:=aI hN;go_wp2_with (go_at_call 122;refine HX.out.mono ?_;rintro r w1 ⟨rfl,hb1⟩);go_ret;exact⟨rfl,hbx.trans (hb1.mono hbx.size)⟩
theorem CB (base:Int)(B:Nat)(ae:Option Addr)(ce:Nat)(ks:List PZ)(w:World)(hk:kK B w ae ks)(hB:B≤w.heap.size)(hn:ks.length≤1099511627776)(hf:∀ x∈ks,x.fit) :
  Calls Tryz.prog 70 #[.int .i64 base,.slice ae ks.length ce] w fun r w'=>r=.returned (.bool (lG base ks))∧Below w.heap.size w w':=by
 have HC:=ay (fun W (hW:Below w.heap.size w W)=>xQ 121 #[] (fun x=>!x.right true) (enters_of Tryz.func121 (by kernel_rfl) rfl) B ae ce ks W (hk.below hW) (jc hB hW.size) hn fun x hx=>Ol x (hf x hx) B W (jc hB hW.size))
 have hdef:lG base ks=((decide (base=1) || decide (base=2)) && (decide (ks.length≤1) && !(ks.any fun x=>!x.right true))):=by rw[lG,yQ]
 rw[hdef];clear hdef hk hf;generalize (ks.any fun x=>!x.right true)=an at *;generalize ks.length=n at *
 by_cases h1:n≤1
 ·have h1I:(n:Int)≤1:=by omega
  rw[iX h1,Bool.true_and];clear h1
  by_cases hb1:base=1
  ·subst hb1
   rw[iX rfl,Bool.true_or,Bool.true_and];go_enter Tryz.func70,Tryz.ntmps70;go_wp2_with (go_at_call 90;refine(HC.out _ (bI _ _)).mono ?_;rintro r w5 ⟨rfl,hb5⟩);go_ret;exact⟨rfl,hb5⟩
  ·have ht1:(base == 1)=false:=BU.2 hb1
   by_cases hb2:base=2
   ·subst hb2
    rw[dA (by decide),iX rfl,Bool.false_or,Bool.true_and];clear hb1;go_enter Tryz.func70,Tryz.ntmps70;go_wp2_with (go_at_call 90;refine(HC.out _ (bI _ _)).mono ?_;rintro r w5 ⟨rfl,hb5⟩);go_ret;exact⟨rfl,hb5⟩
   ·have ht2:(base == 2)=false:=BU.2 hb2
    rw[dA hb1,dA hb2,Bool.false_or,Bool.false_and];clear hb1 hb2 HC;go_enter Tryz.func70,Tryz.ntmps70;go_wp2;go_ret;exact⟨rfl,bI _ _⟩
 ·have h1I:(1:Int)<(n:Int):=by omega
  rw[dA h1,Bool.false_and,Bool.and_false];clear h1 HC
  by_cases hb1:base=1
  ·subst hb1
   go_enter Tryz.func70,Tryz.ntmps70;go_wp2;go_ret;exact⟨rfl,bI _ _⟩
  ·have ht1:(base == 1)=false:=BU.2 hb1
   by_cases hb2:base=2
   ·subst hb2
    clear hb1;go_enter Tryz.func70,Tryz.ntmps70;go_wp2;go_ret;exact⟨rfl,bI _ _⟩
   ·have ht2:(base == 2)=false:=BU.2 hb2
    clear hb1 hb2;go_enter Tryz.func70,Tryz.ntmps70;go_wp2;go_ret;exact⟨rfl,bI _ _⟩
theorem Om (w:World):(Instr.index 213 (.agg #[.string ⟨#[]⟩,.string ⟨#[105,110,116]⟩,.string ⟨#[98,111,111,108]⟩]) (.int .i64 1)).run Tryz.prog w=.ok (.string ⟨#[105,110,116]⟩) w:=by kernel_rfl
theorem Oo (w:World):(Instr.index 213 (.agg #[.string ⟨#[]⟩,.string ⟨#[105,110,116]⟩,.string ⟨#[98,111,111,108]⟩]) (.int .i64 2)).run Tryz.prog w=.ok (.string ⟨#[98,111,111,108]⟩) w:=by kernel_rfl
theorem Rt {base:Int}(h:base=1∨base=2):∀ w:World,(Instr.index 213 (.agg #[.string ⟨#[]⟩,.string ⟨#[105,110,116]⟩,.string ⟨#[98,111,111,108]⟩]) (.int .i64 base)).run Tryz.prog w=.ok (.string ⟨(uW base).toArray⟩) w:=by
 rcases h with rfl|rfl
 ·exact Om
 ·exact Oo
theorem Fp (base:Int)(hbase:base=1∨base=2)(ks:List PZ)(B B' b:Nat)(ae:Option Addr)(ce:Nat)(acc:List UInt8)(w:World)(hk:∀ x∈ks,Rl x)(h:kK B w ae ks)(mM:B≤B')(hbd:jY B' b acc w 151)(hB:B'≤w.heap.size)(hn:acc.length+(kN base ks).length≤1099511627776)(hkl:ks.length≤1000000) :
  Calls Tryz.prog 71 #[.pointer (some ⟨b,0,none⟩),.int .i64 base,.slice ae ks.length ce] w (bQ B' b (acc++kN base ks) w):=by
 have HH:=ay h;have HK:=ay hk;have hix:=Rt hbase;have hw1:=ay (dO ⟨(uW base).toArray⟩ B' b acc w hbd hB (by rw[kN,bN] at hn;show acc.length+(uW base).toArray.size≤_;simp only[List.size_toArray];omega))
 have hn2:(acc++uW base).length+(gI ks).length≤1099511627776:=by rw[kN,bN] at hn;rw[bN];omega
 have hfin:acc++kN base ks=(acc++uW base)++gI ks:=by rw[kN,nQ]
 rw[hfin];clear hfin hn h hk hbase;have hbs:(ByteArray.mk (uW base).toArray).data.toList=uW base:=rfl;rw[hbs] at hw1;clear hbs;have Lv:=ay hbd;clear hbd;generalize ByteArray.mk (uW base).toArray=BS at hix hw1;generalize acc++uW base=VD at *;go_enter Tryz.func71,Tryz.ntmps71
 go_upto_region 1 with (go_at_call 123;refine hw1.out.mono ?_;rintro r w1 h1;obtain rfl:=h1.eq)
 have hs1:=(iD.start Lv.out).write h1;have H1:=ay h1;have GH:=ay (iD.start hs1.lu);have hz1:=hs1.kM.size;clear hs1 h1 hix hw1;go_wp2
 go_loopw [16] (fun q wr=>∃ k:Nat,k≤ks.length∧q=.int .i64 k∧iD w1 B' b (VD++gI (ks.take k)) wr) (fun q _=>ks.length - (intOf q).toNat)
 case atStart=>exact⟨0,lI _,rfl,by simpa [gI] using GH.out⟩
 case round =>
  obtain⟨k,hkk,rfl,st⟩:=hrel;have hz:=st.kM.size
  by_cases hlt:k<ks.length
  ·have hsn:=KH hlt
   have hle:=Rs ks (k+1);rw[hsn] at hle;have HD:=ay (HK.out _ (mX hlt));obtain⟨kb,off,Lx,LA,LB,LC,ck1,rfl,hkB,hE,x0,x1,x2,x3,x4,x5,x6,x7⟩:=HH.out.at ((H1.out.2.2.1.trans st.kM).mono mM) hlt;have qx:=ay hsn;have HST:=ay st;clear hsn st;generalize gI (ks.take k)=c at hle qx HST;generalize ks[k]=x at *
   have pR:(k:Int)<(ks.length:Int):=by omega
   simp only[bN,dR,gX] at hle
   have hl1:(VD++c).length+2≤1099511627776:=by rw[bN];omega
   have hl2:(VD++c++[32,123]).length+x.text.length+1≤1099511627776:=by simp only[bN,dR,gX];omega
   have hal:=aB wr (.cells (aQ x.op ⟨x.name.toArray⟩ ⟨x.module.toArray⟩ (decide (x.num<0)) (.slice Lx LA LB) x.yes (.slice LC x.aA.length ck1) x.at_) 64);have hN:=aY wr (.cells (aQ x.op ⟨x.name.toArray⟩ ⟨x.module.toArray⟩ (decide (x.num<0)) (.slice Lx LA LB) x.yes (.slice LC x.aA.length ck1) x.at_) 64);have s1:=HST.out.below hal (by omega);have hE1:=hE.frame (aW.ru (hal.mono (by omega:B'≤wr.heap.size)) (fun b hb=>by omega:∀ b,b<B→b<B'));clear hle hE
   go_upto_region 4 with fail
   change Code.wp _ _ _ _ (wr.alloc (.cells (aQ x.op ⟨x.name.toArray⟩ ⟨x.module.toArray⟩ (decide (x.num<0)) (.slice Lx LA LB) x.yes (.slice LC x.aA.length ck1) x.at_) 64));clear x0 x1 x2 x3 x4 x5 x6 x7;generalize wr.alloc _=w2 at hal hN s1 hE1 ⊢;have hz2:=hal.size
   go_upto_region 5 with (go_at_call 123;refine(dO ⟨#[32,123]⟩ B' b (VD++c) w2 s1.lu (by omega) hl1).mono ?_;rintro r w3 h3;obtain rfl:=h3.eq)
   have s3:=s1.write h3;have hz3:=s3.kM.size;have Qi:=s1.lu.block h3.2.2.2 hN (by decide) (by decide);obtain⟨y0,y1,y2,y3,y4,y5,y6,y7⟩:=aI Qi;have hlx:=h3.2.2.1.size;have HX:=ay (HD.out B B' b Lx LA LB LC ck1 (VD++c++[32,123]) w3 (hE1.frame (aW.ru h3.2.2.1 fun b hb=>by omega)) mM s3.lu (by omega) (by omega));have Hl:=ay s3;clear HST HD hal hN Qi s1 hE1 s3 h3
   go_upto_region 6 with (go_at_call 124;refine HX.out.mono ?_;rintro r w4 h4;obtain rfl:=h4.eq)
   have s4:=Hl.out.write h4;have zF:=s4.kM.size;have Ru:=ay s4;have HW4:=ay (dO ⟨#[125]⟩ B' b (VD++c++[32,123]++x.text) w4 s4.lu (by omega) (by rw[bN];show _+1≤_;omega));clear HX Hl s4 h4 y0 y1 y2 y3 y4 y5 y6 y7;go_wp2_with (go_at_call 123;refine HW4.out.mono ?_;rintro r w5 h5;obtain rfl:=h5.eq);refine⟨⟨k+1,by omega,by go_num,?_⟩,by simp[intOf];omega⟩;have:=Ru.out.write h5;rw[qx.out]
   simpa [nQ] using this
  ·obtain rfl:k=ks.length:=by omega
   have pR:decide ((ks.length:Int)<(ks.length:Int))=false:=dA (by omega);rw[List.take_length] at st;have HST:=ay st;clear st;go_wp2
   go_end0
   exact⟨rfl,HST.out.lu,H1.out.2.2.1.trans HST.out.kM,H1.out.2.2.2.trans HST.out.kept⟩
structure ZF where
 name:List UInt8
 base:Int
 aC:List PZ
 at_:Int
 bare:Int
structure ZD where
 pub:Bool
 params:List ZF
 res:ZF
 body:PZ
structure ZP where
 aG:List (List UInt8 × Int)
 defs:List ZD
def ZF.right (f:ZF):Bool:=bf f.name && lG f.base f.aC
def ZD.sound (d:ZD):Bool:=bf d.res.name && (decide (d.params.length≤8) && (!(d.params.any fun f=>!f.right) && (lG d.res.base d.res.aC && d.body.right false)))
def ZF.text (f:ZF):List UInt8:=f.name++[58,32]++kN f.base f.aC
def ZD.text (d:ZD):List UInt8:=(if d.pub=true then [112,117,98,32] else [])++([102,117,110,32]++d.res.name++[40])++bM (d.params.map ZF.text)++[41,58,32]++kN d.res.base d.res.aC++[32,61,32]++d.body.text++[59,10]
def sF (m:List UInt8 × Int):List UInt8:=[105,109,112,111,114,116,32]++m.1++[59,10]
def ZP.right (p:ZP):Bool:=decide (p.aG.length≤16) && (decide (p.defs.length≤64) && (p.aG.all (fun m=>bf m.1) && p.defs.all ZD.sound))
def ZP.text (p:ZP):List UInt8:=p.aG.flatMap sF++p.defs.flatMap ZD.text
def ZF.fit (f:ZF):Prop:=f.name.length≤65536∧f.aC.length≤1000000∧∀ e∈f.aC,e.fit
def ZD.fit (d:ZD):Prop:=d.params.length≤1000000∧(∀ f∈d.params,f.fit)∧d.res.fit∧d.body.fit
def ZP.fit (p:ZP):Prop:=p.aG.length≤1000000∧(∀ m∈p.aG,m.1.length≤65536)∧p.defs.length≤1000000∧∀ d∈p.defs,d.fit
def ZFK:RK ZF Value where
 sz:=5
 cells f cv:=[dJ f.name,.int .i64 f.base,cv,.int .i64 f.at_,.int .i64 f.bare]
 inn P w f cv:=RowK (ZK YA) P w cv f.aC
 len _ _:=rfl
 frame h ha:=h.frame ha
 imp h hq:=h.imp hq
def Py:RK ZD DV where
 sz:=15
 cells d x:=[.bool d.pub,dJ d.res.name,x.pv,.int .i64 d.res.base,x.cv,.int .i64 d.body.op,dJ d.body.name,dJ d.body.module,.bool (decide (d.body.num<0)),x.m,.bool d.body.yes,x.k,.int .i64 d.body.at_,.int .i64 d.res.at_,.int .i64 d.res.bare]
 inn P w d x:=RowK ZFK P w x.pv d.params∧RowK (ZK YA) P w x.cv d.res.aC∧nL YA P w x.m x.k d.body
 len _ _:=rfl
 frame h ha:=⟨h.1.frame ha,h.2.1.frame ha,h.2.2.frame ha⟩
 imp h hq:=⟨h.1.imp hq,h.2.1.imp hq,h.2.2.imp hq⟩
def CF (B:Nat)(w:World)(ae:Option Addr)(fs:List ZF):Prop:=0<fs.length→∃ b off,ae=some ⟨b,off,none⟩∧b<B∧b<w.heap.size∧∀ i,(hi:i<fs.length)→∃ ac cc,kK B w ac fs[i].aC∧w.cell? ⟨b,off+i * 5,none⟩=some (.string ⟨fs[i].name.toArray⟩)∧w.cell? ⟨b,off+i * 5+1,none⟩=some (.int .i64 fs[i].base)∧w.cell? ⟨b,off+i * 5+2,none⟩=some (.slice ac fs[i].aC.length cc)∧w.cell? ⟨b,off+i * 5+3,none⟩=some (.int .i64 fs[i].at_)∧w.cell? ⟨b,off+i * 5+4,none⟩=some (.int .i64 fs[i].bare)
theorem VE {B:Nat}{w:World}{kv:Value}{zs:List ZF}(h:RowK ZFK (fun b=>b<B) w kv zs):∃ ao cap,kv=.slice ao zs.length cap∧CF B w ao zs:=by
 obtain⟨ao,cap,hv,_,hf⟩:=h.form;refine⟨ao,cap,hv,fun h0=>?_⟩;obtain⟨b,off,h1,h2,h3,h4⟩:=hf h0;refine⟨b,off,h1,h2,h3,fun i hi=>?_⟩;obtain⟨x,h5,h6⟩:=h4 i hi;obtain⟨ac,cc,rfl,hk⟩:=Jj h5;exact⟨ac,cc,hk,h6 0 _ rfl,h6 1 _ rfl,h6 2 _ rfl,h6 3 _ rfl,h6 4 _ rfl⟩
theorem kK.ru {B:Nat}{w W:World}{ae:Option Addr}{ks:List PZ}(h:kK B w ae ks)(hW:Below B w W):kK B W ae ks:=fun h0=>by
 obtain⟨b,off,q1,q2,q3,q4⟩:=h h0;refine⟨b,off,q1,q2,Nat.lt_of_lt_of_le q3 hW.size,fun i hi=>?_⟩;obtain⟨Lr,wn',Ls,Kv,Kw,q5,q6⟩:=q4 i hi;exact⟨Lr,wn',Ls,Kv,Kw,q5.frame (aW.ru hW fun b hb=>hb),fun j u hu=>(hW.cell (p:=⟨b,off+i * 8+j,none⟩) q2).trans (q6 j u hu)⟩
theorem CF.ru {B:Nat}{w W:World}{ae:Option Addr}{ks:List ZF}(h:CF B w ae ks)(hW:Below B w W):CF B W ae ks:=fun h0=>by
 obtain⟨b,off,q1,q2,q3,q4⟩:=h h0;refine⟨b,off,q1,q2,Nat.lt_of_lt_of_le q3 hW.size,fun i hi=>?_⟩;obtain⟨ac,cc,q5,c0,c1,c2,c3,c4⟩:=q4 i hi;exact⟨ac,cc,q5.ru hW,(hW.cell (p:=⟨b,off+i * 5,none⟩) q2).trans c0,(hW.cell (p:=⟨b,off+i * 5+1,none⟩) q2).trans c1,(hW.cell (p:=⟨b,off+i * 5+2,none⟩) q2).trans c2,(hW.cell (p:=⟨b,off+i * 5+3,none⟩) q2).trans c3,(hW.cell (p:=⟨b,off+i * 5+4,none⟩) q2).trans c4⟩
theorem dX {w:World}{b:Nat}{c0 c1 c2 c3 c4:Value}(h:w.heap[b]?=some (.cells #[c0,c1,c2,c3,c4] 68 (0,0))):w.cell? ⟨b,0,none⟩=some c0∧w.cell? ⟨b,1,none⟩=some c1∧w.cell? ⟨b,2,none⟩=some c2∧w.cell? ⟨b,3,none⟩=some c3∧w.cell? ⟨b,4,none⟩=some c4:=by
 refine⟨?_,?_,?_,?_,?_⟩<;>(rw[aV h];rfl)
def adn (f:FuncId)(lb:Array Value)(p:ZF→Bool)(B:Nat)(w:World)(x:ZF):Prop:=∀ (W:World) (ac:Option Addr) (cc:Nat),Below w.heap.size w W→kK B W ac x.aC →
 Calls Tryz.prog f (#[.agg #[.string ⟨x.name.toArray⟩,.int .i64 x.base,.slice ac x.aC.length cc,.int .i64 x.at_,.int .i64 x.bare]]++lb) W fun r w'=>r=.returned (.bool (p x))∧Below W.heap.size W w'
def Bw (p:ZF→Bool):List ZF→Nat→Int
 | [],_=>-1
 | x :: l,k=>if p x=true then k else Bw p l (k+1)
theorem Oq (p:ZF→Bool):∀ (l:List ZF) (k:Nat),decide (0≤Bw p l k)=l.any p
 | [],k=>rfl
 | x :: l,k=>by
  rw[Bw,List.any_cons]
  split
  ·rename_i h;rw[h];exact iX (by omega)
  ·rename_i h;rw[Bool.not_eq_true] at h;rw[h,Oq p l];rfl
theorem Tt {p:ZF→Bool}:∀ {ks:List ZF} {k:Nat} (j:Nat) (h:k<ks.length),(∀ i,i<k→(hi:i<ks.length)→p ks[i]=false)→Bw p ks j=if p ks[k]=true then ((j+k:Nat):Int) else Bw p (ks.drop (k+1)) (j+k+1)
 | x :: l,0,j,h,_=>by simp[Bw]
 | x :: l,k+1,j,h,hf=>by
  have h0:=hf 0 (by omega) (by simp)
  have ih:=Tt (p:=p) (ks:=l) (k:=k) (j+1) (by simpa using h) fun i hi hl=>by have:=hf (i+1) (by omega) (by simpa using hl);simpa using this
  rw[Bw,if_neg (by simpa using h0),ih];simp only[List.getElem_cons_succ,List.drop_succ_cons];rw[show j+1+k=j+(k+1) by omega]
theorem Tv {p:ZF→Bool}:∀ {ks:List ZF} (j:Nat),(∀ i,(hi:i<ks.length)→p ks[i]=false)→Bw p ks j=-1
 | [],_,_=>rfl
 | x :: l,j,hf=>by
  have h0:=hf 0 (by simp);rw[Bw,if_neg (by simpa using h0)]
  exact Tv (j+1) fun i hi=>by have:=hf (i+1) (by simpa using hi);simpa using this
theorem Rv (f:FuncId)(lb:Array Value)(p:ZF→Bool)(eg:∀ args w,(callFunc f args).run Tryz.prog w=.ok (.enter f args) w)(B:Nat)(ae:Option Addr)(ce:Nat)(ks:List ZF)(w:World)(hk:CF B w ae ks)(hB:B≤w.heap.size)(hn:ks.length≤1099511627776)(ha:∀ x∈ks,adn f lb p B w x) :
  Calls Tryz.prog 257 #[.slice ae ks.length ce,.func (.func f) #[] lb] w fun r w'=>r=.returned (.int .i64 (Bw p ks 0))∧Below w.heap.size w w':=by
 have HK:=ay hk;have HA:=ay ha;clear hk ha;go_enter Tryz.func257,Tryz.ntmps257;go_wp2
 go_loopw [5,8] (fun _ q wr=>∃ k:Nat,k≤ks.length∧q=.int .i64 k∧(∀ i,i<k→(hi:i<ks.length)→p ks[i]=false)∧Below w.heap.size w wr) (fun _ q _=>ks.length - (intOf q).toNat)
 case atStart=>exact⟨0,lI _,rfl,fun i hi=>absurd hi (by omega),bI _ _⟩
 case round =>
  obtain⟨k,hkl,rfl,hno,hbl⟩:=hrel;have hw:=hbl.size;have HN:=ay hno;clear hno
  by_cases hlt:k<ks.length
  ·obtain⟨b,off,rfl,YD,hbw,kL⟩:=HK.out.ru (hbl.mono hB) (by omega)
   obtain⟨ac,cc,hE,y0,y1,y2,y3,y4⟩:=kL k hlt;have hA:=HA.out _ (mX hlt) wr ac cc hbl hE;have hix:=Tt (p:=p) 0 hlt HN.out
   have hnx:p ks[k]=false→∀ i,i<k+1→(hi:i<ks.length)→p ks[i]=false:=fun q i hi hl=>by
    by_cases e:i=k
    ·subst e;exact q
    ·exact HN.out i (by omega) hl
   have HX:=ay hix;have Da:=ay hnx;clear kL hE hix hnx;generalize ks[k]=x at y0 y1 y2 y3 y4 hA HX Da
   have pR:(k:Int)<(ks.length:Int):=by omega
   cases hq:p x with
   | true =>
    rw[hq] at hA;have Tk:Hid (Bw p ks 0=(k:Int)):=ay (by rw[HX.out,if_pos hq,Nat.zero_add]);have HAA:=ay hA;clear hA hq HX Da;go_wp2_with (go_at_fn f;refine HAA.out.mono ?_;rintro r w2 ⟨rfl,hb2⟩);go_ret;exact⟨lJ (by rw[Tk.out]),hbl.trans (hb2.mono hw)⟩
   | false =>
    rw[hq] at hA;have adf:=ay (Da.out hq);have HAA:=ay hA;clear hA hq HX Da;go_wp2_with (go_at_fn f;refine HAA.out.mono ?_;rintro r w2 ⟨rfl,hb2⟩);exact⟨⟨k+1,by omega,by go_num,adf.out,hbl.trans (hb2.mono hw)⟩,by simp[intOf];omega⟩
  ·obtain rfl:k=ks.length:=by omega
   have pR:decide ((ks.length:Int)<(ks.length:Int))=false:=dA (by omega);have Tk:Hid (Bw p ks 0=-1):=ay (Tv 0 fun i hi=>HN.out i hi hi);clear HN;go_wp2;go_ret;exact⟨lJ (by rw[Tk.out]),hbl⟩
theorem Ho (f:FuncId)(lb:Array Value)(p:ZF→Bool)(eg:∀ args w,(callFunc f args).run Tryz.prog w=.ok (.enter f args) w)(B:Nat)(ae:Option Addr)(ce:Nat)(ks:List ZF)(w:World)(hk:CF B w ae ks)(hB:B≤w.heap.size)(hn:ks.length≤1099511627776)(ha:∀ x∈ks,adn f lb p B w x) :
  Calls Tryz.prog 209 #[.slice ae ks.length ce,.func (.func f) #[] lb] w fun r w'=>r=.returned (.bool (ks.any p))∧Below w.heap.size w w':=by
 have HI:=ay (Rv f lb p eg B ae ce ks w hk hB hn ha);have HY:=ay (Oq p ks 0);clear hk ha hn hB eg;generalize Bw p ks 0=i at *;go_enter Tryz.func209,Tryz.ntmps209;go_wp2_with (go_at_call 257;refine HI.out.mono ?_;rintro r w2 ⟨rfl,hb2⟩);go_ret;exact⟨aT (by rw[← HY.out]),hb2⟩
theorem Rw (x:ZF)(hf:x.fit)(B:Nat)(w:World)(hB:B≤w.heap.size):adn 208 #[] (fun x=>!x.right) B w x:=by
 intro W ac cc hW hE;have hs:=hW.size;have hbx:=aB W (.cells #[.string ⟨x.name.toArray⟩,.int .i64 x.base,.slice ac x.aC.length cc,.int .i64 x.at_,.int .i64 x.bare] 68);have hN:=aY W (.cells #[.string ⟨x.name.toArray⟩,.int .i64 x.base,.slice ac x.aC.length cc,.int .i64 x.at_,.int .i64 x.bare] 68);have HP:=ay (fun V=>lY ⟨x.name.toArray⟩ V (by have:=hf.1;show x.name.toArray.size≤_;simp;omega));have HC:=ay (fun V (hV:Below W.heap.size W V)=>CB x.base B ac cc x.aC V (hE.below hV) (by have:=hV.size;omega) (by have:=hf.2.1;omega) hf.2.2)
 have hdef:(!x.right)=(!bf x.name || !lG x.base x.aC):=by rw[ZF.right,Bool.not_and]
 show Calls _ _ #[_] _ fun r w'=>r=.returned (.bool (!x.right))∧Below W.heap.size W w'
 rw[hdef];have eN:(ByteArray.mk x.name.toArray).data.toList=x.name:=rfl;rw[eN] at HP;generalize bf x.name=pl at *;generalize lG x.base x.aC=cl at *;clear hE hf hdef eN;go_enter Tryz.func208,Tryz.ntmps208
 go_upto_region 1 with fail
 change Code.wp _ _ _ _ (W.alloc (.cells #[.string ⟨x.name.toArray⟩,.int .i64 x.base,.slice ac x.aC.length cc,.int .i64 x.at_,.int .i64 x.bare] 68));generalize W.alloc _=w0 at hbx hN ⊢;have hl0:=(bS hN).1;obtain⟨y0,y1,y2,y3,y4⟩:=dX hN
 cases pl with
 | false =>
  clear HC;go_wp2_with (go_at_call 42;refine(HP.out _).mono ?_;rintro r w1 ⟨rfl,hb1⟩);go_ret;exact⟨rfl,hbx.trans (hb1.mono hbx.size)⟩
 | true =>
  go_wp2_with (first|(go_at_call 42;refine(HP.out _).mono ?_;rintro r w1 ⟨rfl,hb1⟩;have oC:=hbx.trans (hb1.mono hbx.size);obtain⟨z0,z1,z2,z3,z4⟩:=dX ((hb1.block _ hl0).trans hN))|(go_at_call 70;refine(HC.out _ oC).mono ?_;rintro r w2 ⟨rfl,hb2⟩));go_ret;exact⟨rfl,oC.trans (hb2.mono oC.size)⟩
end Go.Proofs.YtmhdgeekclhbbaaGreatDoor

namespace Go.Proofs.YtmhdgeekclhbbaaGreatDoor
abbrev Fl:=Option (Int × Int)
def nR:Fl→Fl→Fl
 | none,b=>b
 | some x,_=>some x
theorem pF (a:Fl):nR a none=a:=by cases a<;>rfl
theorem tQ (a b c:Fl):nR (nR a b) c=nR a (nR b c):=by cases a<;>rfl
structure SE where
 imps:List (List UInt8)
 arity:List UInt8→Option Nat
 ext:List UInt8→List UInt8→Option Nat
def Fq (o:Option Nat)(n:Nat)(a:Int):Fl:=match o with
 | none=>some (31,a)
 | some k=>if k=n then none else some (32,a)
def Jk (E:SE)(nm md:List UInt8)(n:Nat)(a:Int):Fl :=
 if md=[] then Fq (E.arity nm) n a else if md∈E.imps then Fq (E.ext md nm) n a else some (33,a)
def qQ (E:SE)(bd:List (List UInt8))(res:Bool)(op:Int)(nm md:List UInt8)(n:Nat)(a:Int):Fl :=
 if (op=3∧nm ∉ bd)∨(op=4∧res=false) then some (31,a) else if op=24 then Jk E nm md n a else none
def Fu (op:Int)(nm:List UInt8)(bd:List (List UInt8))(i:Nat):List (List UInt8):=if op=22∧i=1 then fH (bd++[nm]) else bd
mutual
def PZ.eO (E:SE)(bd:List (List UInt8))(res:Bool):PZ→Fl
 | .mk op nm md _ _ aA a=>nR (qQ E bd res op nm md aA.length a) (dY E op nm bd res 0 aA)
def dY (E:SE)(op:Int)(nm:List UInt8)(bd:List (List UInt8))(res:Bool):Nat→List PZ→Fl
 | _,[]=>none
 | i,e :: l=>nR (e.eO E (Fu op nm bd i) res) (dY E op nm bd res (i+1) l)
end
theorem PZ.Rx (E:SE)(bd:List (List UInt8))(res:Bool)(e:PZ):e.eO E bd res=nR (qQ E bd res e.op e.name e.module e.aA.length e.at_) (dY E e.op e.name bd res 0 e.aA):=by cases e;rw[PZ.eO];rfl
theorem z8 (E:SE)(op:Int)(nm:List UInt8)(bd:List (List UInt8))(res:Bool)(e:PZ):∀ (l:List PZ) (i:Nat),dY E op nm bd res i (l++[e])=nR (dY E op nm bd res i l) (e.eO E (Fu op nm bd (i+l.length)) res)
 | [],i=>by rw[qc,dY,dY,dY,pF];rfl
 | x :: l,i=>by
  rw[jN,dY,dY,z8 E op nm bd res e l (i+1),tQ,dR,show i+1+l.length=i+(l.length+1) by omega]
theorem KI (E:SE)(op:Int)(nm:List UInt8)(bd:List (List UInt8))(res:Bool){l:List PZ}{k:Nat}(h:k<l.length) :
  dY E op nm bd res 0 (l.take (k+1))=nR (dY E op nm bd res 0 (l.take k)) (l[k].eO E (Fu op nm bd k) res):=by
 rw[Dg h,z8,qZ,Nat.min_eq_left (Nat.le_of_lt h),Nat.zero_add]
def bZ (E:SE)(bd:List (List UInt8))(res:Bool):List PZ→Fl
 | []=>none
 | e :: l=>nR (e.eO E bd res) (bZ E bd res l)
theorem xU (E:SE)(bd:List (List UInt8))(res:Bool)(e:PZ):∀ l:List PZ,bZ E bd res (l++[e])=nR (bZ E bd res l) (e.eO E bd res)
 | []=>by rw[qc,bZ,bZ,bZ,pF];rfl
 | x :: l=>by rw[jN,bZ,bZ,xU E bd res e l,tQ]
theorem Hq (E:SE)(bd:List (List UInt8))(res:Bool){l:List PZ}{k:Nat}(h:k<l.length):bZ E bd res (l.take (k+1))=nR (bZ E bd res (l.take k)) (l[k].eO E bd res):=by
 rw[Dg h,xU]
def lC (E:SE)(s:List (List UInt8) × Fl):List ZF→List (List UInt8) × Fl
 | []=>s
 | f :: l=>lC E (fH (s.1++[f.name]),nR (nR s.2 (if f.name∈s.1 then some (30,f.at_) else none)) (bZ E (fH (s.1++[f.name])) false f.aC)) l
theorem CG (E:SE)(f:ZF):∀ (l:List ZF) (s:List (List UInt8) × Fl),lC E s (l++[f])=lC E (lC E s l) [f]
 | [],s=>rfl
 | x :: l,s=>CG E f l _
theorem Ot (E:SE)(s:List (List UInt8) × Fl){l:List ZF}{k:Nat}(h:k<l.length):lC E s (l.take (k+1))=lC E (lC E s (l.take k)) [l[k]]:=by
 rw[Dg h,CG]
def Aa (E:SE)(f:Fl)(d:ZD):Fl :=
 nR (nR (lC E ([],f) d.params).2 (bZ E (lC E ([],f) d.params).1 true d.res.aC)) (d.body.eO E (lC E ([],f) d.params).1 false)
def sG (E:SE)(f:Fl):List ZD→Fl
 | []=>f
 | d :: l=>sG E (Aa E f d) l
theorem CJ (E:SE)(d:ZD):∀ (l:List ZD) (f:Fl),sG E f (l++[d])=Aa E (sG E f l) d
 | [],f=>rfl
 | x :: l,f=>CJ E d l _
theorem Ou (E:SE)(f:Fl){l:List ZD}{k:Nat}(h:k<l.length):sG E f (l.take (k+1))=Aa E (sG E f (l.take k)) l[k]:=by
 rw[Dg h,CJ]
def Ry (own:List UInt8)(face:List UInt8→Bool)(s:List (List UInt8) × Fl):List (List UInt8 × Int)→List (List UInt8) × Fl
 | []=>s
 | m :: l=>Ry own face (fH (s.1++[m.1]),nR s.2 (if m.1=own then some (33,m.2) else if m.1∈s.1 then some (30,m.2) else if face m.1=true then none else some (33,m.2))) l
def gQ (l:List ZD)(nm:List UInt8):Option Nat:=(l.find? fun d=>decide (d.res.name=nm)).map fun d=>d.params.length
def jl (f:Fl):List (List UInt8)→List ZD→Fl
 | _,[]=>f
 | seen,d :: l=>jl (nR f (if d.res.name∈seen then some (30,d.res.at_) else none)) (seen++[d.res.name]) l
theorem Ab (d:ZD):∀ (l:List ZD) (f:Fl) (seen:List (List UInt8)),jl f seen (l++[d])=nR (jl f seen l) (if d.res.name∈seen++l.map (fun x=>x.res.name) then some (30,d.res.at_) else none)
 | [],f,seen=>by rw[qc,jl,jl,jl,List.map_nil,List.append_nil]
 | x :: l,f,seen=>by rw[jN,jl,jl,Ab d l,List.map_cons,nQ];rfl
theorem KJ (f:Fl){l:List ZD}{k:Nat}(h:k<l.length):jl f [] (l.take (k+1))=nR (jl f [] (l.take k)) (if l[k].res.name∈(l.take k).map (fun x=>x.res.name) then some (30,l[k].res.at_) else none):=by
 rw[Dg h,Ab,qc]
def ZP.se (p:ZP)(own:List UInt8)(face:List UInt8→Bool)(ext:List UInt8→List UInt8→Option Nat):SE:=⟨(Ry own face ([],none) p.aG).1,gQ p.defs,ext⟩
def ZP.eO (p:ZP)(own:List UInt8)(face:List UInt8→Bool)(ext:List UInt8→List UInt8→Option Nat):Fl :=
 sG (p.se own face ext) (jl (Ry own face ([],none) p.aG).2 [] p.defs) p.defs
end Go.Proofs.YtmhdgeekclhbbaaGreatDoor

namespace Go.Proofs.YtmhdgeekclhbbaaGreatDoor
open Go.RowKit Go Go.Sort
theorem Tryz.Tw:(Tryz.prog.info? 9).map (fun i=>(i.zero,i.size,i.bytes))=some (some (.string ⟨#[]⟩),1,16):=by kernel_rfl
def Hr (B:Nat)(w:World)(v:Value)(l:List (List UInt8)):Prop:=w.ownsRow B 9 1 v l.length (l.map encStr)
theorem Hr.slice {B:Nat}{w:World}{v:Value}{l:List (List UInt8)}(h:Hr B w v l):∃ ak ck,v=.slice ak l.length ck:=by
 obtain⟨ao,cap,e,_,_⟩:=(gD.owns (P:=fun _=>True) h (fun _ _=>trivial)).slice;exact⟨ao,cap,e⟩
def Ov (w:World)(e:Ending)(w':World):Prop:=∃ v,e=.returned v∧Hr w.heap.size w' v []∧Below w.heap.size w w'
theorem VF (n:Nat)(w:World)(hn:n≤4000000):Calls Tryz.prog 152 #[.slice none 0 0,.int .i64 n] w (Ov w):=by
 rcases Nat.eq_zero_or_pos n with h0|h0
 ·subst h0
  go_enter Tryz.func152,Tryz.ntmps152;go_wp2;go_ret;exact⟨_,rfl,World.ownsRow_nil _ _ _ _,bI _ _⟩
 ·obtain⟨i0,hi,hz0,hz1,hz2⟩:=info_parts Tryz.Tw
  have hrz:=Lib.run_append_grow_zeros (P:=Tryz.prog) w 35 3 35 9 i0 _ .i64 .i64 Tryz.underlying35 Tryz.underlying3 hi hz0 none 0 0 [] (run_firstCells_none _ _ _ _ _) n h0 (by omega) (by omega) (by omega) (by rw[hz2];omega) (by rw[hz2];exact growslice_fits (by omega) (by omega));rw[Nat.zero_add] at hrz;have hG1:=grownCap_ge w n 0 9;have hG2:=grownCap_le_maxLen w n 0 9 (by unfold maxLen;omega);generalize grownCap w n 0 9=G at *
  have hown:((w.alloc (.cells (Builtin.zeroCells #[Value.string ⟨#[]⟩] n++Builtin.zeroCells #[Value.string ⟨#[]⟩] (G - n)) 9)).drew).ownsRow w.heap.size 9 1 (.slice (some ⟨w.heap.size,0,none⟩) 0 G) 0 [] :=
   ⟨rfl,.inr ⟨w.heap.size,G,_,rfl,bD _,aY w _,by omega,hG2,by simp[size_zeroCells];omega,by simp⟩⟩
  have hbel:Below w.heap.size w ((w.alloc (.cells (Builtin.zeroCells #[Value.string ⟨#[]⟩] n++Builtin.zeroCells #[Value.string ⟨#[]⟩] (G - n)) 9)).drew):=((bI _ w).alloc (bD _) _).drew;have HO:=ay hown;have HB:=ay hbel
  have hG3:G≤9223372036854775807:=by unfold maxLen at hG2;omega
  have hnI:(0:Int)<(n:Int):=by omega
  have hn0:¬ ((n:Int)<0):=by omega
  clear hown hbel;go_enter Tryz.func152,Tryz.ntmps152;go_wp2_with (at_builtin;refine Lib.wpList_append_run _ rfl _ _ _ _ rfl _ _ rfl rfl _ _ hrz ?_)
  all_goals (go_ret;exact⟨_,rfl,HO.out,HB.out⟩)
theorem gD.news {P:Nat→Prop}{w:World}{ad:Addr}{n c:Nat}{l:List (List UInt8)}(h:gD P w (.slice (some ad) n c) l):∀ j u,(l.map encStr)[j]?=some u→w.cell? (ad.add j)=some u:=by
 obtain⟨ao,cap,hv,_,hc⟩:=h.slice;simp only[Value.slice.injEq] at hv;obtain⟨rfl,rfl,rfl⟩:=hv;intro j u hj;rw[List.getElem?_map] at hj;obtain⟨x,hx,rfl⟩:=Option.map_eq_some_iff.1 hj;obtain⟨hjl,rfl⟩:=pJ hx;obtain⟨b,off,e,_,_,hcell⟩:=hc (by omega)
 injection e with e
 subst e;rw[Addr.add_lit];exact hcell j hjl
def abO (l:List (List UInt8))(w:World)(e:Ending)(w':World):Prop:=∃ v,e=.returned v∧Hr w.heap.size w' v l∧Below w.heap.size w w'
theorem Tx (l:List (List UInt8)):∀ u∈l.map encStr,u.oneCell'=true:=by
 intro u hu;obtain⟨x,_,rfl⟩:=List.mem_map.1 hu
 rfl
theorem Hr.app {B:Nat}{w:World}{v:Value}{l a:List (List UInt8)}(h:w.ownsRow B 9 1 v (l.length+a.length) (l.map encStr++a.map encStr)):Hr B w v (l++a):=by
 unfold Hr;rw[bN,List.map_append];exact h
theorem Rz (P:Nat→Prop)(v1 v2:Value)(a b:List (List UInt8))(sb:Nat)(w:World)(h1:gD P w v1 a)(h2:gD P w v2 b)(hs:w.heap[sb]?=some (.cells #[v1,v2] 35 (0,0)))(ha:a.length≤1000000)(hb:b.length≤1000000) :
  Calls Tryz.prog 89 #[.slice (some ⟨sb,0,none⟩) 2 2] w (abO (a++b) w):=by
 obtain⟨i0,hi,hz0,hz1,hz2⟩:=info_parts Tryz.Tw;obtain⟨a1,c1,rfl,hc1,-⟩:=h1.slice;obtain⟨a2,c2,rfl,hc2,-⟩:=h2.slice;have hsl:=(bS hs).1
 have x0:w.cell? ⟨sb,0,none⟩=some (.slice a1 a.length c1):=by rw[aV hs];rfl
 have x1:w.cell? ⟨sb,1,none⟩=some (.slice a2 b.length c2):=by rw[aV hs];rfl
 have HG:Hid (Calls Tryz.prog 152 #[.slice none 0 0,.int .i64 ((a.length:Int)+(b.length:Int))] w (Ov w)):=ay (by
  have:=VF (a.length+b.length) w (by omega);rw[Int.natCast_add] at this
  exact this)
 have H1:=ay h1;have H2:=ay h2;have HS:=ay hs
 have haI:(a.length:Int)≤1000000:=by omega
 have hbI:(b.length:Int)≤1000000:=by omega
 have hnn:¬ ((a.length:Int)+(b.length:Int)<0):=by omega
 have hn1:¬ ((a.length:Int)<0):=by omega
 clear h1 h2 hs;go_enter Tryz.func89,Tryz.ntmps89;go_wp2
 go_loopw [3,5,11] (fun s _ q wr=>wr=w∧((q=.int .i64 0∧s=.int .i64 0)∨(q=.int .i64 1∧s=.int .i64 a.length)∨(q=.int .i64 2∧s=.int .i64 ((a.length:Int)+(b.length:Int))))) (fun _ _ q _=>(2 - intOf q).toNat)
 case atStart=>exact⟨rfl,.inl ⟨rfl,rfl⟩⟩
 case round =>
  obtain⟨rfl,⟨rfl,rfl⟩|⟨rfl,rfl⟩|⟨rfl,rfl⟩⟩:=hrel
  ·clear HG H1 H2 HS
   go_wp2
   go_roundw
   case rel=>exact⟨by trivial,.inr (.inl ⟨rfl,by simp⟩)⟩
   case measure=>simp[intOf]
  ·clear HG H1 H2 HS
   go_wp2
   go_roundw
   case rel=>exact⟨by trivial,.inr (.inr ⟨rfl,rfl⟩)⟩
   case measure=>simp[intOf]
  ·clear x0 x1
   obtain⟨w0,rfl⟩:∃ w0:World,w0=wr:=⟨_,rfl⟩
   go_upto_region 10 with (go_at_call 152;refine HG.out.mono ?_;rintro e w2 ⟨v,rfl,hown,hb2⟩)
   obtain⟨ak0,ck0,rfl⟩:=hown.slice;have HO:=ay hown;have HB2:=ay hb2;clear hown hb2 HG;go_wp2
   go_loopw [6,8,27] (fun kv _ q w3=>∃ (ak:Option Addr) (ck:Nat) (l:List (List UInt8)),kv=.slice ak l.length ck∧Hr w0.heap.size w3 (.slice ak l.length ck) l∧Below w0.heap.size w0 w3∧((q=.int .i64 0∧l=[])∨(q=.int .i64 1∧l=a)∨(q=.int .i64 2∧l=a++b))) (fun _ _ q _=>(2 - intOf q).toNat)
   case atStart=>exact⟨ak0,ck0,[],rfl,HO.out,HB2.out,.inl ⟨rfl,rfl⟩⟩
   case round =>
    obtain⟨ak,ck,l,rfl,hown,hbl,⟨rfl,rfl⟩|⟨rfl,hla⟩|⟨rfl,rfl⟩⟩:=hrel
    ·-- round 0
     have hsc:wr.cell? ⟨sb,0,none⟩=some (.slice a1 a.length c1):=by rw[aV ((hbl.block sb hsl).trans HS.out)];rfl
     have ht:=H1.out.below hbl;have Fv:=hbl.size
     cases a1 with
     | none =>
      obtain rfl:=ht.2 _ _ rfl
      have hl0:a.length=0:=by
       obtain⟨ao,cap,hv,_,hc⟩:=ht.slice
       rcases Nat.eq_zero_or_pos a.length with q|q
       ·exact q
       ·obtain⟨b,off,e,_⟩:=hc q
        simp only[Value.slice.injEq] at hv;rw[← hv.1] at e;cases e
      have he:=List.eq_nil_of_length_eq_zero hl0;rw[hl0] at hsc;have HW:=ay hown;have HE:=ay he;clear ht hown he hl0 H1 H2;go_wp2_with (at_builtin;refine wpList_append_own_none rfl _ _ 35 rfl w0.heap.size 9 i0 1 Tryz.underlying35 hi _ ([]:List (List UInt8)).length _ rfl HW.out rfl ?_)
      go_roundw
      case rel =>
       repeat apply Exists.intro
       exact⟨⟨_,_,_,rfl,HW.out,hbl,.inr (.inl ⟨rfl,HE.out.symm⟩)⟩,rfl⟩
      case measure=>simp[intOf]
     | some ad =>
      have hnews:=ht.news;have HW:=ay hown;clear ht H1 H2;go_wp2_with (at_builtin;refine wpList_append_own _ rfl _ _ 35 rfl w0.heap.size 9 i0 _ 1 16 Tryz.underlying35 hi hz0 hz1 hz2 rfl (by decide) _ ([]:List (List UInt8)).length _ rfl HW.out ad a.length c1 (a.map encStr) rfl ?q1 hnews (Tx _) ?q2 ?q3 Fv ?_)
      case q1=>simp
      case q2=>unfold maxLen;first|omega|(simp only[gX];omega)
      case q3=>first|omega|(simp only[gX];omega)
      intro v' w' hown' hgrow hiff;have hb':=hbl.grown hgrow Fv (fun b q=>(HW.out.lt b q).1);have HO':Hid (Hr w0.heap.size w' v' a):=ay hown';obtain⟨Kv,Kw,rfl⟩:=HO'.out.slice;clear hown' hgrow hiff hown HW hnews;go_wp2
      go_roundw
      case rel =>
       repeat apply Exists.intro
       exact⟨⟨_,_,_,rfl,HO'.out,hb',.inr (.inl ⟨rfl,rfl⟩)⟩,rfl⟩
      case measure=>simp[intOf]
    ·-- round 1
     have ahD:l.length≤1000000:=by rw[hla];exact ha
     have HLA:=ay hla;clear hla
     have hsc:wr.cell? ⟨sb,1,none⟩=some (.slice a2 b.length c2):=by rw[aV ((hbl.block sb hsl).trans HS.out)];rfl
     have ht:=H2.out.below hbl;have Fv:=hbl.size
     cases a2 with
     | none =>
      obtain rfl:=ht.2 _ _ rfl
      have hl0:b.length=0:=by
       obtain⟨ao,cap,hv,_,hc⟩:=ht.slice
       rcases Nat.eq_zero_or_pos b.length with q|q
       ·exact q
       ·obtain⟨b,off,e,_⟩:=hc q
        simp only[Value.slice.injEq] at hv;rw[← hv.1] at e;cases e
      have he:=List.eq_nil_of_length_eq_zero hl0;rw[hl0] at hsc;have HW:=ay hown;have HE:=ay he;clear ht hown he hl0 H1 H2;go_wp2_with (at_builtin;refine wpList_append_own_none rfl _ _ 35 rfl w0.heap.size 9 i0 1 Tryz.underlying35 hi _ l.length _ rfl HW.out rfl ?_)
      go_roundw
      case rel =>
       repeat apply Exists.intro
       exact⟨⟨_,_,_,rfl,HW.out,hbl,.inr (.inr ⟨rfl,by rw[HE.out,List.append_nil,HLA.out]⟩)⟩,rfl⟩
      case measure=>simp[intOf]
     | some ad =>
      have hnews:=ht.news;have HW:=ay hown;clear ht H1 H2;go_wp2_with (at_builtin;refine wpList_append_own _ rfl _ _ 35 rfl w0.heap.size 9 i0 _ 1 16 Tryz.underlying35 hi hz0 hz1 hz2 rfl (by decide) _ l.length _ rfl HW.out ad b.length c2 (b.map encStr) rfl ?q1 hnews (Tx _) ?q2 ?q3 Fv ?_)
      case q1=>simp
      case q2=>unfold maxLen;first|omega|(simp only[gX];omega)
      case q3=>first|omega|(simp only[gX];omega)
      intro v' w' hown' hgrow hiff;have hb':=hbl.grown hgrow Fv (fun b q=>(HW.out.lt b q).1);have HO':=ay (Hr.app (l:=l) (a:=b) hown');obtain⟨Kv,Kw,rfl⟩:=HO'.out.slice;clear hown' hgrow hiff hown HW hnews;go_wp2
      go_roundw
      case rel =>
       repeat apply Exists.intro
       exact⟨⟨_,_,_,rfl,HO'.out,hb',.inr (.inr ⟨rfl,by rw[HLA.out]⟩)⟩,rfl⟩
      case measure=>simp[intOf]
    ·have HW:=ay hown
     clear hown H1 H2;go_wp2;go_ret;exact⟨_,rfl,HW.out,hbl⟩
theorem ado {w:World}{b:Nat}{v u:Value}(h:w.heap[b]?=some (.cells #[v] 107 (0,0))):(w.setCell ⟨b,0,none⟩ u).cell? ⟨b,0,none⟩=some u:=by
 have:=heap_setCell_same w b 0 _ _ u h;rw[aV this];rfl
theorem Fw (P:Nat→Prop)(ao:Option Addr)(c:Nat)(v2:Value)(a b:List (List UInt8))(w:World)(h1:gD P w (.slice ao a.length c) a)(h2:gD P w v2 b)(ha:a.length≤500000)(hb:b.length≤500000) :
  Calls Tryz.prog 55 #[.agg #[.slice ao a.length c],v2] w (SI (fH (a++b)) w):=by
 obtain⟨a2,c2,rfl,-,-⟩:=h2.slice;have hal:=(aB w (.cells #[.slice ao a.length c] 107)).alloc (by simp) (.cells #[.slice none 0 0] 107);have hN:=(gY (w.alloc (.cells #[.slice ao a.length c] 107)) (.cells #[.slice none 0 0] 107) w.heap.size (by simp)).trans (aY w (.cells #[.slice ao a.length c] 107));have hR:=aY (w.alloc (.cells #[.slice ao a.length c] 107)) (.cells #[.slice none 0 0] 107);rw[oP] at hR;have HC:=ay (fun W (hW:Below w.heap.size w W)=>Rz P (.slice ao a.length c) (.slice a2 b.length c2) a b W.heap.size (W.alloc (.cells #[.slice ao a.length c,.slice a2 b.length c2] 35)) ((h1.below hW).below (aB W _)) ((h2.below hW).below (aB W _)) (aY W _) (by omega) (by omega))
 have hlen:(a++b).length≤1000000:=by rw[bN];omega
 clear h1 h2;go_enter Tryz.func55,Tryz.ntmps55
 go_upto_region 1 with fail
 change Code.wp _ _ _ _ ((w.alloc (.cells #[.slice ao a.length c] 107)).alloc (.cells #[.slice none 0 0] 107));generalize (w.alloc _).alloc _=w1 at hal hN hR ⊢;have hlR:=(bS hR).1;have c0:=(bL hN).1;have hz1:=hal.size;have J6:=ay (HC.out w1 hal);clear HC hN;go_wp2_with (first|(go_at_call 89;refine J6.out.mono ?_;rintro e w2 ⟨v,rfl,hown,hb2⟩;have qR:=(aB w1 (.cells #[.slice ao a.length c,.slice a2 b.length c2] 35)).trans (hb2.mono (by simp));have hz2:=qR.size;have HOF:=ay (acR (fun _=>True) v (a++b) w2 (gD.owns hown (fun _ _=>trivial)) hlen))|(go_at_call 88;refine HOF.out.mono ?_;rintro e w3 ⟨ar,cr,rfl,htx,hb3⟩;have su:=qR.trans (hb3.mono hz2);have hR3:=(su.block _ hlR).trans hR;have hfz:=(bL hR3).2;have hc0:=(bL hR3).1));have hs0:=ado (u:=.slice ar (fH (a++b)).length cr) hR3;have hbw:Below w.heap.size w (w3.setCell ⟨w.heap.size+1,0,none⟩ (.slice ar (fH (a++b)).length cr)):=(hal.trans (su.mono hz1)).setCell (by show w.heap.size≤w.heap.size+1;omega) _
 have acS:gD (fun b=>w.heap.size≤b) (w3.setCell ⟨w.heap.size+1,0,none⟩ (.slice ar (fH (a++b)).length cr)) (.slice ar (fH (a++b)).length cr) (fH (a++b)):=(htx.frame (aW.set _ fun k hk=>by show k≠w.heap.size+1;omega)).imp fun k hk _=>by omega
 exact bodyPost_ret (v:=.agg #[.slice ar (fH (a++b)).length cr]) (by simp[results,Tryz.results55,go_sem,hs0]) rfl ⟨_,_,rfl,acS,hbw⟩
end Go.Proofs.YtmhdgeekclhbbaaGreatDoor

namespace Go.Proofs.YtmhdgeekclhbbaaGreatDoor
open Go.RowKit Go Go.Sort
end Go.Proofs.YtmhdgeekclhbbaaGreatDoor

namespace Go.Proofs.YtmhdgeekclhbbaaGreatDoor
open Go.RowKit Go
def flE (f:Fl):Int:=match f with
 | none=>0
 | some x=>x.1
def flA (f:Fl):Int:=match f with
 | none=>0
 | some x=>x.2
def iH (f:Fl):Prop:=∀ x,f=some x→x.1≠0
theorem iH.none:iH none:=fun _ h=>by cases h
theorem iH.some {e a:Int}(h:e≠0):iH (some (e,a)):=fun x q=>by injection q with q;subst q;exact h
theorem iH.or {f g:Fl}(h:iH f)(k:iH g):iH (nR f g):=by cases f<;>assumption
structure VG where
 md:List UInt8
 pi:Value
 pd:Value
 fs:Value
 db:Nat
def abP (C:VG)(im:Value)(f:Fl):Array Value:=#[.string ⟨C.md.toArray⟩,C.pi,C.pd,C.fs,im,.pointer (some ⟨C.db,0,none⟩),.int .i64 (flE f),.int .i64 (flA f)]
def l8 (C:VG)(lb:Nat)(im:Value)(f:Fl)(w:World):Prop:=w.heap[lb]?=some (.cells (abP C im f) 109 (0,0))
theorem l8.cells {C:VG}{lb:Nat}{im:Value}{f:Fl}{w:World}(h:l8 C lb im f w):(w.cell? ⟨lb,0,none⟩=some (.string ⟨C.md.toArray⟩)∧w.cell? ⟨lb,1,none⟩=some C.pi∧w.cell? ⟨lb,2,none⟩=some C.pd∧w.cell? ⟨lb,3,none⟩=some C.fs∧w.cell? ⟨lb,4,none⟩=some im∧w.cell? ⟨lb,5,none⟩=some (.pointer (some ⟨C.db,0,none⟩))∧w.cell? ⟨lb,6,none⟩=some (.int .i64 (flE f))∧w.cell? ⟨lb,7,none⟩=some (.int .i64 (flA f)))∧∀ i,w.frozen? ⟨lb,i,none⟩=false:=by
 refine⟨⟨?_,?_,?_,?_,?_,?_,?_,?_⟩,fun i=>by rw[l8] at h;simp[World.frozen?,h]⟩
 all_goals (rw[aV h];rfl)
theorem l8.lt {C:VG}{lb:Nat}{im:Value}{f:Fl}{w:World}(h:l8 C lb im f w):lb<w.heap.size:=(bS h).1
theorem l8.below {C:VG}{lb:Nat}{im:Value}{f:Fl}{w w':World}(h:l8 C lb im f w)(hb:Below w.heap.size w w'):l8 C lb im f w':=(hb.block lb h.lt).trans h
def dK (lb:Nat)(w w':World):Prop:=(∀ B,B≤lb→Below B w w')∧aW (fun b=>b≠lb) w w'
theorem dK.refl (lb:Nat)(w:World):dK lb w w:=⟨fun B _=>bI B w,aW.refl _ _⟩
theorem dK.trans {lb:Nat}{a b c:World}(h:dK lb a b)(k:dK lb b c):dK lb a c:=⟨fun B hB=>(h.1 B hB).trans (k.1 B hB),h.2.trans k.2⟩
theorem dK.of {lb:Nat}{w w':World}(h:Below w.heap.size w w')(hl:lb<w.heap.size):dK lb w w':=⟨fun B hB=>h.mono (by omega),aW.of h⟩
theorem dK.set {lb:Nat}(w:World)(i:Nat)(v:Value):dK lb w (w.setCell ⟨lb,i,none⟩ v):=⟨fun B hB=>(bI B w).setCell hB v,aW.set v fun b hb=>hb⟩
def yS (C:VG)(lb:Nat)(im:Value)(f:Fl)(w:World)(r:Ending)(w':World):Prop:=r=.returned (.tuple #[])∧l8 C lb im f w'∧dK lb w w'
theorem xw (C:VG)(lb:Nat)(im:Value)(f:Fl)(e a:Int)(w:World)(h:l8 C lb im f w)(hf:iH f) :
  Calls Tryz.prog 50 #[.pointer (some ⟨lb,0,none⟩),.int .i64 e,.int .i64 a] w (yS C lb im (nR f (some (e,a))) w):=by
 obtain⟨⟨-,-,-,-,-,-,c6,c7⟩,hz⟩:=h.cells;have z6:=hz 6;have z7:=hz 7;have H:=ay h;clear hz h
 cases f with
 | none =>
  simp only[flE,flA] at c6 c7;have h2:l8 C lb im (nR none (some (e,a))) ((w.setCell ⟨lb,6,none⟩ (.int .i64 e)).setCell ⟨lb,7,none⟩ (.int .i64 a)):=heap_setCell_same _ lb 7 _ _ _ (heap_setCell_same w lb 6 _ _ _ H.out);have H2:=ay h2;clear h2;go_enter Tryz.func50,Tryz.ntmps50;go_wp2
  go_end0
  exact⟨rfl,H2.out,(dK.set w 6 _).trans (dK.set _ 7 _)⟩
 | some x =>
  have hx:(x.1 == 0)=false:=by
   have:=hf x rfl
   simpa using this
  simp only[flE,flA] at c6 c7;generalize x.1=xe at c6 hx
  have hx':¬ xe=0:=by simpa using hx
  clear hx c7;go_enter Tryz.func50,Tryz.ntmps50;go_wp2
  go_end0
  exact⟨rfl,H.out,dK.refl _ _⟩
def Tz:RK (List UInt8) Unit where
 sz:=2
 cells m _:=[.string ⟨m.toArray⟩,.slice none 0 0]
 inn _ _ _ _:=True
 len _ _:=rfl
 frame _ _:=trivial
 imp _ _:=trivial
theorem l9 {w:World}{b:Nat}{u v:Value}(h:w.heap[b]?=some (.cells #[u,v] 31 (0,0))):w.cell? ⟨b,0,none⟩=some u∧w.cell? ⟨b,1,none⟩=some v:=⟨by rw[aV h];rfl,by rw[aV h];rfl⟩
theorem VH (P:Nat→Prop)(af:Option Addr)(cf:Nat)(ms:List (List UInt8))(m n:List UInt8)(w:World)(h:RowK Tz P w (.slice af ms.length cf) ms)(hl:ms.length≤1000000) :
  Calls Tryz.prog 214 #[.slice af ms.length cf,.string ⟨m.toArray⟩,.string ⟨n.toArray⟩] w fun e w'=>e=.returned (.tuple #[.agg #[.string ⟨#[]⟩,.slice none 0 0,.int .i64 0,.slice none 0 0],.bool false])∧Below w.heap.size w w':=by
 obtain⟨ao',cap,hv,_,hf⟩:=h.form;simp only[Value.slice.injEq] at hv;obtain⟨rfl,-,rfl⟩:=hv;have hal:=aB w (.cells #[.string ⟨#[]⟩,.slice none 0 0,.int .i64 0,.slice none 0 0] 53);have hR:=aY w (.cells #[.string ⟨#[]⟩,.slice none 0 0,.int .i64 0,.slice none 0 0] 53);have HF:=ay hf;clear h hf;go_enter Tryz.func214,Tryz.ntmps214
 go_upto_region 1 with fail
 change Code.wp _ _ _ _ (w.alloc (.cells #[.string ⟨#[]⟩,.slice none 0 0,.int .i64 0,.slice none 0 0] 53))
 have hz:w.heap.size<(w.alloc (.cells #[.string ⟨#[]⟩,.slice none 0 0,.int .i64 0,.slice none 0 0] 53)).heap.size:=by simp
 generalize w.alloc _=w1 at *;have hz1:=hal.size
 have aeW:Hid (∀ W,Below w1.heap.size w1 W→W.heap[w.heap.size]?=some (.cells #[.string ⟨#[]⟩,.slice none 0 0,.int .i64 0,.slice none 0 0] 53 (0,0))∧Below w.heap.size w W):=ay fun W hW=>⟨(hW.block _ hz).trans hR,hal.trans (hW.mono hz1)⟩
 clear hR;go_wp2
 go_loopw [9,11,14] (fun _ _ q wr=>∃ k:Nat,k≤ms.length∧q=.int .i64 k∧Below w1.heap.size w1 wr) (fun _ _ q _=>ms.length - (intOf q).toNat)
 case atStart=>exact⟨0,lI _,rfl,bI _ _⟩
 case round =>
  obtain⟨k,hk,rfl,hbl⟩:=hrel;have Fv:=hbl.size
  by_cases hlt:k<ms.length
  ·obtain⟨b,off,rfl,_,hbw,hcell⟩:=HF.out (by omega)
   obtain⟨_,_,hc⟩:=hcell k hlt;have x0:=((hal.trans (hbl.mono hz1)).cell (p:=⟨b,off+k * 2+0,none⟩) hbw).trans (hc 0 _ rfl);have x1:=((hal.trans (hbl.mono hz1)).cell (p:=⟨b,off+k * 2+1,none⟩) hbw).trans (hc 1 _ rfl);rw[Nat.add_zero] at x0
   have pR:(k:Int)<(ms.length:Int):=by omega
   clear hc hcell;generalize ms[k]=y at *;have cB:=aB wr (.cells #[.string ⟨y.toArray⟩,.slice none 0 0] 31);have hN:=aY wr (.cells #[.string ⟨y.toArray⟩,.slice none 0 0] 31)
   go_upto_region 4 with fail
   change Code.wp _ _ _ _ (wr.alloc (.cells #[.string ⟨y.toArray⟩,.slice none 0 0] 31));clear x0 x1;generalize wr.alloc (.cells #[.string ⟨y.toArray⟩,.slice none 0 0] 31)=w2 at *;have hb2:=hbl.trans (cB.mono Fv);obtain⟨y0,y1⟩:=l9 hN
   go_upto_if 21 with fail
   cases hym:y == m with
   | false =>
    clear hym;go_wp2
    go_roundw
    case rel=>exact⟨k+1,by omega,by go_num,hb2⟩
    case measure=>simp[intOf];omega
   | true =>
    clear hym;obtain⟨hRr,lF⟩:=aeW.out w2 hb2;obtain⟨⟨c0,c1,c2,c3⟩,f0,f1,f2,f3⟩:=qH hRr;go_wp2
    go_loopw [25] (fun q wr=>q=.int .i64 0∧wr=w2) (fun q _=>0)
    case atStart=>exact⟨rfl,rfl⟩
    case round =>
     obtain⟨rfl,rfl⟩:=hrel;go_wp2;change bodyPost _ _ _ _ _ (uY wr w.heap.size (.string ⟨#[]⟩) (.slice none 0 0) (.int .i64 0) (.slice none 0 0));have hP:=lW hRr (.string ⟨#[]⟩) (.slice none 0 0) (.int .i64 0) (.slice none 0 0);have UC:=jH lF (bD _) (.string ⟨#[]⟩) (.slice none 0 0) (.int .i64 0) (.slice none 0 0);generalize uY wr _ _ _ _ _=w4 at *;obtain⟨⟨d0,d1,d2,d3⟩,-⟩:=qH hP;exact bodyPost_ret (v:=.tuple #[.agg #[.string ⟨#[]⟩,.slice none 0 0,.int .i64 0,.slice none 0 0],.bool false]) (by simp[results,Tryz.results214,go_sem,d0,d1,d2,d3]) rfl ⟨rfl,UC⟩
  ·obtain rfl:k=ms.length:=by omega
   have pR:decide ((ms.length:Int)<(ms.length:Int))=false:=dA (by omega);obtain⟨hRr,hbw⟩:=aeW.out wr hbl;obtain⟨⟨c0,c1,c2,c3⟩,f0,f1,f2,f3⟩:=qH hRr;go_wp2;change bodyPost _ _ _ _ _ (uY wr w.heap.size (.string ⟨#[]⟩) (.slice none 0 0) (.int .i64 0) (.slice none 0 0));have hP:=lW hRr (.string ⟨#[]⟩) (.slice none 0 0) (.int .i64 0) (.slice none 0 0);have UC:=jH hbw (bD _) (.string ⟨#[]⟩) (.slice none 0 0) (.int .i64 0) (.slice none 0 0);generalize uY wr _ _ _ _ _=w4 at *;obtain⟨⟨d0,d1,d2,d3⟩,-⟩:=qH hP;exact bodyPost_ret (v:=.tuple #[.agg #[.string ⟨#[]⟩,.slice none 0 0,.int .i64 0,.slice none 0 0],.bool false]) (by simp[results,Tryz.results214,go_sem,d0,d1,d2,d3]) rfl ⟨rfl,UC⟩
def adp:Option (List Value)→Option Nat→Prop
 | none,none=>True
 | some vs,some n=>∃ s a c b u,vs=[s,.slice a n c,b,u]
 | _,_=>False
structure ScM (E:SE) (C:VG) (lb B:Nat) (im:Value) (w:World):Prop where
 map:∃ mv ml,yA B C.db mv ml w∧ml.length≤1000000∧∀ nm,adp (sK ml nm) (E.arity nm)
 imps:gD (fun b=>b≠lb) w im E.imps
 rise:E.imps.Pairwise (· < ·)
 few:E.imps.length≤500000
 faces:∃ ms:List (List UInt8),ms.length≤1000000∧RowK Tz (fun b=>b≠lb) w C.fs ms
 ext:E.ext=fun _ _=>none
theorem abQ {P:Nat→Prop}{B e sz n:Nat}{w w':World}{v:Value}{xs:List Value}(h:w.ownsRow B e sz v n xs)(ha:aW P w w')(hP:∀ b,some b=v.ownBlock→P b):w'.ownsRow B e sz v n xs:=by
 obtain⟨hl,h⟩:=h;refine⟨hl,?_⟩
 rcases h with h|⟨g,cap,cur,rfl,hg,hh,hn⟩
 ·exact .inl h
 ·exact .inr ⟨g,cap,cur,rfl,hg,(ha.2 g (hP g rfl) (bS hh).1).trans hh,hn⟩
theorem yA.alk {P:Nat→Prop}{B mb:Nat}{v:Value}{l:ML}{w w':World}(h:yA B mb v l w)(ha:aW P w w')(hm:P mb)(hP:∀ b,some b=v.ownBlock→P b):yA B mb v l w' :=
 ⟨h.wf,(ha.2 mb hm (bS h.box).1).trans h.box,abQ h.own ha hP⟩
theorem ScM.keep {E:SE}{C:VG}{lb B:Nat}{im:Value}{f:Fl}{w w':World}(h:ScM E C lb B im w)(hl:l8 C lb im f w)(ha:aW (fun b=>b≠lb) w w'):ScM E C lb B im w':=by
 obtain⟨⟨mv,ml,h1,h2,h3⟩,h4,h5,h6,⟨ms,h7,h8⟩,h9⟩:=h;refine⟨⟨mv,ml,h1.alk ha (fun q=>?_) (fun b hb q=>?_),h2,h3⟩,h4.frame ha,h5,h6,⟨ms,h7,h8.frame ha⟩,h9⟩
 ·have h0:=h1.box
  rw[q,hl] at h0;simp only[Option.some.injEq,Obj.cells.injEq] at h0;exact absurd h0.2.1 (by decide)
 ·subst q
  exact own_ne h1.own hl (by decide) hb
theorem Y7 {l:ML}{x:List UInt8}{k:Nat}(hw:BX k l){ar:Option Nat}(h:adp (sK l x) ar):∃ (s b u:Value) (a:Option Addr) (n c:Nat) (fd:Bool),(∀ W e w',AX l x W e w'→e=.returned (.tuple #[.agg #[s,.slice a n c,b,u],.bool fd])∧Below W.heap.size W w')∧(s.oneCell'=true∧b.oneCell'=true∧u.oneCell'=true)∧∀ kn at_,Fq ar kn at_=if fd=true then (if n=kn then none else some (32,at_)) else some (31,at_):=by
 cases hg:sK l x with
 | none =>
  rw[hg] at h
  cases ar with
  | some n=>exact h.elim
  | none =>
   refine⟨.string ⟨#[]⟩,.int .i64 0,.slice none 0 0,none,0,0,false,fun W e w' q=>?_,⟨rfl,rfl,rfl⟩,fun kn at_=>rfl⟩;unfold AX at q;rw[hg] at q;exact q
 | some vs =>
  rw[hg] at h
  cases ar with
  | none=>exact h.elim
  | some n =>
   obtain⟨s,a,c,b,u,rfl⟩:=h
   have hone:∀ y∈[s,Value.slice a n c,b,u],y.oneCell'=true:=by
    unfold sK at hg;obtain⟨p,hp,hq⟩:=Option.map_eq_some_iff.1 hg;rw[← hq];exact hw.one p (List.mem_of_find?_eq_some hp)
   refine⟨s,b,u,a,n,c,true,fun W e w' q=>?_,⟨hone s (by simp),hone b (by simp),hone u (by simp)⟩,fun kn at_=>rfl⟩;unfold AX at q;rw[hg] at q;exact q
theorem Fx (w:World)(b k:Nat)(v0 v1 v2 v3:Value)(h:k≠b):(uY w b v0 v1 v2 v3).heap[k]?=w.heap[k]? :=
 (heap_setCell_other _ _ _ _ h).trans ((heap_setCell_other _ _ _ _ h).trans ((heap_setCell_other _ _ _ _ h).trans (heap_setCell_other _ _ _ _ h)))
theorem mh (w:World)(b c i:Nat)(v0 v1 v2 v3:Value)(h:c≠b):((((w.setCell ⟨b,0,none⟩ v0).setCell ⟨b,1,none⟩ v1).setCell ⟨b,2,none⟩ v2).setCell ⟨b,3,none⟩ v3).cell? ⟨c,i,none⟩=w.cell? ⟨c,i,none⟩ :=
 World.cell?_of_block (a:=⟨c,i,none⟩) ((heap_setCell_other _ _ _ _ h).trans ((heap_setCell_other _ _ _ _ h).trans ((heap_setCell_other _ _ _ _ h).trans (heap_setCell_other _ _ _ _ h))))
theorem VI (E:SE)(C:VG)(lb B:Nat)(im:Value)(f:Fl)(op:Int)(nm md:List UInt8)(ng ys:Bool)(mv:Value)(ae:Option Addr)(n ce:Nat)(a_:Int)(w:World)(hL:l8 C lb im f w)(hM:ScM E C lb B im w)(hf:iH f) :
  Calls Tryz.prog 137 #[.pointer (some ⟨lb,0,none⟩),.agg (aQ op ⟨nm.toArray⟩ ⟨md.toArray⟩ ng mv ys (.slice ae n ce) a_)] w (yS C lb im (nR f (Jk E nm md n a_)) w):=by
 have hal:=aB w (.cells (aQ op ⟨nm.toArray⟩ ⟨md.toArray⟩ ng mv ys (.slice ae n ce) a_) 64);have hN:=aY w (.cells (aQ op ⟨nm.toArray⟩ ⟨md.toArray⟩ ng mv ys (.slice ae n ce) a_) 64);have hL1:=hL.below hal;have hM1:=hM.keep hL (aW.of hal);have hk1:=dK.of hal hL.lt;obtain⟨⟨mv',ml,hm1,hm2,hm3⟩,hi1,hi2,hi3,⟨ms,hs1,hs2⟩,hx⟩:=hM1;obtain⟨s,b,u,a,np,c,fd,hget,⟨o1,o2,o3⟩,har⟩:=Y7 hm1.wf (hm3 nm);have HG:=ay (fun W (hW:Below (w.alloc (.cells (aQ op ⟨nm.toArray⟩ ⟨md.toArray⟩ ng mv ys (.slice ae n ce) a_) 64)).heap.size (w.alloc (.cells (aQ op ⟨nm.toArray⟩ ⟨md.toArray⟩ ng mv ys (.slice ae n ce) a_) 64)) W)=>(MJ B C.db mv' ml nm W (hm1.below hW) hm2).mono fun e w' q=>hget W e w' q);obtain⟨ai,ci,rfl,-,-⟩:=hi1.slice;have HH:=ay (fun W (hW:Below (w.alloc (.cells (aQ op ⟨nm.toArray⟩ ⟨md.toArray⟩ ng mv ys (.slice ae n ce) a_) 64)).heap.size (w.alloc (.cells (aQ op ⟨nm.toArray⟩ ⟨md.toArray⟩ ng mv ys (.slice ae n ce) a_) 64)) W)=>Dj _ ai ci E.imps ⟨md.toArray⟩ W (hi1.below hW) hi2 (by omega));obtain⟨af,cf,hfs⟩:=hs2.slice;have HF:=ay (fun W (hW:Below (w.alloc (.cells (aQ op ⟨nm.toArray⟩ ⟨md.toArray⟩ ng mv ys (.slice ae n ce) a_) 64)).heap.size (w.alloc (.cells (aQ op ⟨nm.toArray⟩ ⟨md.toArray⟩ ng mv ys (.slice ae n ce) a_) 64)) W)=>VH _ af cf ms md nm W (by rw[← hfs];exact hs2.frame (aW.of hW)) hs1);have HFS:=ay hfs
 have hcf:∀ q,Jk E nm md n q=if md=[] then (if fd=true then (if np=n then none else some (32,q)) else some (31,q)) else if md∈E.imps then some (31,q) else some (33,q):=fun q=>by
  unfold Jk;rw[har,hx]
  rfl
 rw[hcf]
 obtain⟨R,hR⟩:∃ R,R=nR f (if md=[] then (if fd=true then (if np=n then none else some (32,a_)) else some (31,a_)) else if md∈E.imps then some (31,a_) else some (33,a_)):=⟨_,rfl⟩
 rw[← hR];have TA:=ay (fun W (hW:l8 C lb (.slice ai E.imps.length ci) f W) (e:Int)=>xw C lb (.slice ai E.imps.length ci) f e a_ W hW hf);have hbb:=hL.lt;clear hcf har hx hget hm1 hm2 hm3 hi1 hi2 hi3 hs1 hs2 hM hL hfs hf;generalize E.imps=L at *;have HR:=ay hR;clear hR;simp only at HH;go_enter Tryz.func137,Tryz.ntmps137
 go_upto_region 1 with fail
 change Code.wp _ _ _ _ (w.alloc (.cells (aQ op ⟨nm.toArray⟩ ⟨md.toArray⟩ ng mv ys (.slice ae n ce) a_) 64))
 have hz:w.heap.size<(w.alloc (.cells (aQ op ⟨nm.toArray⟩ ⟨md.toArray⟩ ng mv ys (.slice ae n ce) a_) 64)).heap.size:=by simp
 generalize w.alloc _=w1 at *;obtain⟨⟨k0,k1',k2,k3,k4,k5,k6,k7⟩,kz⟩:=hL1.cells;obtain⟨y0,y1,y2,y3,y4,y5,y6,y7⟩:=aI hN
 have s1:=fun a m W=>run_store Tryz.prog W a s m o1
 have s2:=fun a m W=>run_store Tryz.prog W a b m o2
 have s3:=fun a m W=>run_store Tryz.prog W a u m o3
 have hn1:lb≠w1.heap.size:=by omega
 have hn2:w.heap.size≠w1.heap.size:=by omega
 have Y8:=ay hL1;have HN:=ay hN;clear hL1 hN kz
 go_cut [4,5] (fun p q wc=>∃ Y:Nat,p=.pointer (some ⟨Y,0,none⟩)∧q=.bool fd∧wc.heap[Y]?=some (.cells #[s,.slice a np c,b,u] 53 (0,0))∧w1.heap.size≤Y∧Below w1.heap.size w1 wc)
 case first =>
  go_region_held3 (fun W=>W.cell? ⟨lb,5,none⟩=some (.pointer (some ⟨C.db,0,none⟩))∧W.cell? ⟨w.heap.size,1,none⟩=some (.string ⟨nm.toArray⟩))
   (first|(with_reducible exact p3)|(with_reducible exact And.intro ((mh w2 w1.heap.size lb 5 _ _ _ _ hn1).trans p3.1) ((mh w2 w1.heap.size w.heap.size 1 _ _ _ _ hn2).trans p3.2))|(go_keep;done))
   (first|(go_at_call 49;refine(HG.out _ ?_).mono ?_;(first|exact(bI _ _).drew|exact((bI _ _).alloc (bD _) _).drew);rintro e w2 ⟨rfl,hb2⟩;have hq2:Below w1.heap.size w1 w2:=(by first|exact(bI _ _).drew.trans hb2|exact((bI _ _).alloc (bD _) _).drew.trans (hb2.mono (by simp)));have p3:=And.intro (iW hq2 k5) (iW hq2 y1);try (have hT:=(hb2.block w1.heap.size (by simp)).trans (aY w1 (.cells #[.string ⟨#[]⟩,.slice none 0 0,.int .i64 0,.slice none 0 0] 53));obtain⟨⟨t0,t1,t2,t3⟩,g0,g1,g2,g3⟩:=qH hT)))
  ·clear s1 s2 s3
   go_wp2_with fail
   go_meet
   exact⟨w2.heap.size,rfl,rfl,aY w2 _,hq2.size,hq2.alloc hq2.size _⟩
  ·clear s1 s2 s3
   go_wp2_with fail
   go_meet
   exact⟨w1.heap.size,rfl,rfl,lW hT s (.slice a np c) b u,bD _,jH hq2 (bD _) s (.slice a np c) b u⟩
 case rest =>
  obtain⟨Y,rfl,rfl,hY,hYw,hqc⟩:=hcut
  obtain⟨w2,rfl⟩:∃ w2:World,w2=wc:=⟨_,rfl⟩
  clear k0 k1' k2 k3 k4 k5 k6 k7 y0 y1 y2 y3 y4 y5 y6 y7;have hL2:=Y8.out.below hqc;have Il:=(hqc.block _ hz).trans HN.out;have hzc:=hqc.size;have hk2:=hk1.trans (dK.of hqc (by omega));obtain⟨⟨k0,k1',k2,k3,k4,k5,k6,k7⟩,kz⟩:=hL2.cells;obtain⟨y0,y1,y2,y3,y4,y5,y6,y7⟩:=aI Il;obtain⟨⟨c0,c1,c2,c3⟩,f0,f1,f2,f3⟩:=qH hY;have HL2:=ay hL2;have HY:=ay hY;have hYl:=(bS hY).1;have HNN:=ay Il;clear hL2 Il hY kz HN
  go_upto_if 18 with fail
  cases hmd:md.isEmpty with
  | true =>
   have HR1:Hid (R=nR f (if fd=true then (if np=n then none else some (32,a_)) else some (31,a_))):=ay (by rw[HR.out,if_pos (List.isEmpty_iff.1 hmd)]);clear hmd s1 s2 s3
   cases fd with
   | false =>
    have HFx:=ay (TA.out w2 HL2.out 31);go_wp2_with (go_at_call 50;refine HFx.out.mono ?_;rintro e w3 ⟨rfl,hl3,gM⟩)
    go_end0
    exact⟨rfl,by rw[HR1.out];exact hl3,hk2.trans gM⟩
   | true =>
    by_cases hnp:np=n
    ·subst hnp
     go_wp2
     go_end0
     exact⟨rfl,by have q:=HL2.out;rw[HR1.out];simpa [pF] using q,hk2⟩
    ·have HR2:Hid (R=nR f (some (32,a_))):=ay (by rw[HR1.out,if_pos rfl,if_neg hnp])
     have HFx:=ay (TA.out w2 HL2.out 32);go_wp2_with (go_at_call 50;refine HFx.out.mono ?_;rintro e w3 ⟨rfl,hl3,gM⟩)
     go_end0
     exact⟨rfl,by rw[HR2.out];exact hl3,hk2.trans gM⟩
  | false =>
   have hm0:md≠[]:=fun q=>by rw[q] at hmd;cases hmd
   have HHx:=ay (fun W (hW:Below w2.heap.size w2 W)=>HH.out W (hqc.trans (hW.mono hzc)));have HFx:=ay (fun W (hW:Below w2.heap.size w2 W)=>HF.out W (hqc.trans (hW.mono hzc)))
   obtain⟨bb,adq⟩:∃ bb,decide (md∈L)=bb:=⟨_,rfl⟩
   rw[adq] at HHx
   have HR1:Hid (R=nR f (if bb=true then some (31,a_) else some (33,a_))):=ay (by
    rw[HR.out,if_neg hm0,← adq]
    by_cases q:md∈L
    ·rw[if_pos q,if_pos (iX q)]
    ·rw[if_neg q,if_neg (by simpa using q)])
   have HN2:=ay (show w2.heap[w.heap.size]?=some (.cells (aQ op ⟨nm.toArray⟩ ⟨md.toArray⟩ ng mv ys (.slice ae n ce) a_) 64 (0,0)) from HNN.out);clear adq hm0 s1 s2 s3 HR HH HF
   go_upto_region 3 with fail
   go_cut [26] (fun v wc=>v=.bool (!bb)∧Below w2.heap.size w2 wc)
   case first =>
    go_region_with (go_at_call 54;refine(HHx.out _ (bI _ _).drew).mono ?_;rintro e w3 ⟨rfl,hb3⟩)
    all_goals
     go_wp2_with fail
     go_meet
     exact⟨rfl,(bI _ _).drew.trans hb3⟩
   case rest =>
    obtain⟨rfl,hq3⟩:=hcut
    obtain⟨w3,rfl⟩:∃ w3:World,w3=wc:=⟨_,rfl⟩
    clear k0 k1' k2 k3 k4 k5 k6 k7 y0 y1 y2 y3 y4 y5 y6 y7 c0 c1 c2 c3 f0 f1 f2 f3 HHx;have hL3:=HL2.out.below hq3;have Qi:=(hq3.block _ (by omega)).trans HN2.out;have hY3:=(hq3.block _ hYl).trans HY.out;have hz3:=hq3.size;have gM:=hk2.trans (dK.of hq3 (by omega));obtain⟨⟨k0,k1',k2,k3,k4,k5,k6,k7⟩,kz⟩:=hL3.cells;obtain⟨y0,y1,y2,y3,y4,y5,y6,y7⟩:=aI Qi;obtain⟨⟨c0,c1,c2,c3⟩,f0,f1,f2,f3⟩:=qH hY3;have Pz:=ay hL3;clear kz
    cases bb with
    | false =>
     have HFx:=ay (TA.out w3 Pz.out 33);have HR2:Hid (R=nR f (some (33,a_))):=ay (by have q:=HR1.out;simpa using q);go_wp2_with (go_at_call 50;refine HFx.out.mono ?_;rintro e w4 ⟨rfl,hl4,hk4⟩)
     go_end0
     exact⟨rfl,by rw[HR2.out];exact hl4,gM.trans hk4⟩
    | true =>
     have HR2:Hid (R=nR f (some (31,a_))):=ay (by have q:=HR1.out;simpa using q);rw[HFS.out] at k3;have HN3:=ay Qi;have HY3:=ay hY3;clear HR1 Qi hY3;have uZ:=hal.trans ((hqc.trans (hq3.mono hzc)).mono hal.size);have agj:w.heap.size≤Y:=jc hal.size hYw
     have adr:Y<w3.heap.size:=by omega
     go_upto_region 5 with fail
     go_cut [5] (fun v wc=>v=.bool false∧l8 C lb (.slice ai L.length ci) f wc∧wc.heap[w.heap.size]?=some (.cells (aQ op ⟨nm.toArray⟩ ⟨md.toArray⟩ ng mv ys (.slice ae n ce) a_) 64 (0,0))∧Below w.heap.size w wc)
     case first =>
      go_region_with (go_at_call 214;refine(HFx.out _ hq3.drew).mono ?_;rintro e w4 ⟨rfl,hb4⟩;have hY4:=(hb4.block Y adr).trans HY3.out;obtain⟨⟨d0,d1,d2,d3⟩,g0,g1,g2,g3⟩:=qH hY4)
      all_goals
       have Bz:Below w3.heap.size w3 w4:=(bI _ _).drew.trans hb4
       have HE:Hid (l8 C lb (.slice ai L.length ci) f (uY w4 Y (.string ⟨#[]⟩) (.slice none 0 0) (.int .i64 0) (.slice none 0 0))∧(uY w4 Y (.string ⟨#[]⟩) (.slice none 0 0) (.int .i64 0) (.slice none 0 0)).heap[w.heap.size]?=some (.cells (aQ op ⟨nm.toArray⟩ ⟨md.toArray⟩ ng mv ys (.slice ae n ce) a_) 64 (0,0))∧Below w.heap.size w (uY w4 Y (.string ⟨#[]⟩) (.slice none 0 0) (.int .i64 0) (.slice none 0 0))) :=
        ay ⟨(Fx w4 Y lb _ _ _ _ (by omega)).trans (Pz.out.below Bz),(Fx w4 Y w.heap.size _ _ _ _ (by omega)).trans ((Bz.block _ (by omega)).trans HN3.out),jH (uZ.trans (Bz.mono uZ.size)) agj _ _ _ _⟩
       clear d0 d1 d2 d3 g0 g1 g2 g3 hY4 k0 k1' k2 k3 k4 k5 k6 k7 y0 y1 y2 y3 y4 y5 y6 y7 c0 c1 c2 c3 f0 f1 f2 f3 hb4 Bz;go_wp2_with fail
       go_meet
       exact⟨rfl,HE.out.1,HE.out.2.1,HE.out.2.2⟩
     case rest =>
      obtain⟨rfl,hl4,UA,hb4⟩:=hcut
      obtain⟨w4,rfl⟩:∃ w4:World,w4=wc:=⟨_,rfl⟩
      clear k0 k1' k2 k3 k4 k5 k6 k7 y0 y1 y2 y3 y4 y5 y6 y7 c0 c1 c2 c3 f0 f1 f2 f3;obtain⟨y0,y1,y2,y3,y4,y5,y6,y7⟩:=aI UA;have HFy:=ay (TA.out w4 hl4 31);clear UA hl4;go_wp2_with (go_at_call 50;refine HFy.out.mono ?_;rintro e w5 ⟨rfl,hl5,lM⟩)
      go_end0
      exact⟨rfl,by rw[HR2.out];exact hl5,(dK.of hb4 hbb).trans lM⟩
