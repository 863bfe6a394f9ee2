/- Walks and plain laws, without a condition. -/
import Derived.Test.YtmhdgeekclhbbaaGreatDoorE10
import Derived.Deep.CutBlock
set_option maxHeartbeats 16000000
set_option maxRecDepth 100000
set_option linter.unusedVariables false
set_option linter.unusedSimpArgs false
namespace Go.Proofs.YtmhdgeekclhbbaaGreatDoor
open Go.RowKit Go
variable{k B b B' ce wn cm:Nat}{w w' W W':World}{acc:aH}{r:Ending}{ae am:Option Addr}{op:Int}{e:PZ}
def aha:Array Value:=#[.int .i64 6,.int .i64 6,.int .i64 7,.string ⟨#[43]⟩,.int .i64 6,.int .i64 6,.int .i64 7,.string ⟨#[45]⟩,.int .i64 7,.int .i64 7,.int .i64 8,.string ⟨#[42]⟩,.int .i64 7,.int .i64 7,.int .i64 8,.string ⟨#[47]⟩,.int .i64 7,.int .i64 7,.int .i64 8,.string ⟨#[37]⟩,.int .i64 5,.int .i64 6,.int .i64 6,.string ⟨#[61]⟩,.int .i64 5,.int .i64 6,.int .i64 6,.string ⟨#[60,62]⟩,.int .i64 5,.int .i64 6,.int .i64 6,.string ⟨#[60]⟩,.int .i64 5,.int .i64 6,.int .i64 6,.string ⟨#[60,61]⟩,.int .i64 5,.int .i64 6,.int .i64 6,.string ⟨#[62]⟩,.int .i64 5,.int .i64 6,.int .i64 6,.string ⟨#[62,61]⟩,.int .i64 3,.int .i64 3,.int .i64 4,.string ⟨#[38,38]⟩,.int .i64 2,.int .i64 2,.int .i64 3,.string ⟨#[124,124]⟩,.int .i64 1,.int .i64 2,.int .i64 1,.string ⟨#[61,62]⟩]
theorem Xy:∀ k:Nat,k<14->∀ w:World,(Instr.index 309 (.agg aha) (.int .i64 k)).run Tryz.prog w=.ok (.agg #[.int .i64 (KV ((k+7:Nat):Int)),.int .i64 (xV ((k+7:Nat):Int)),.int .i64 (BH ((k+7:Nat):Int)),.string ⟨(vk ((k+7:Nat):Int)).toArray⟩]) w
 | 0,_=>λ_=>by kernel_rfl
 | 1,_=>λ_=>by kernel_rfl
 | 2,_=>λ_=>by kernel_rfl
 | 3,_=>λ_=>by kernel_rfl
 | 4,_=>λ_=>by kernel_rfl
 | 5,_=>λ_=>by kernel_rfl
 | 6,_=>λ_=>by kernel_rfl
 | 7,_=>λ_=>by kernel_rfl
 | 8,_=>λ_=>by kernel_rfl
 | 9,_=>λ_=>by kernel_rfl
 | 10,_=>λ_=>by kernel_rfl
 | 11,_=>λ_=>by kernel_rfl
 | 12,_=>λ_=>by kernel_rfl
 | 13,_=>λ_=>by kernel_rfl
 | k+14,h=>absurd h (by omega)
theorem Vp (op:Int)(h1:7<=op)(h2:op<=20)(w:World):Calls Tryz.prog 204 #[.int .i64 op] w λr w'=>r=.returned (.agg #[.int .i64 (KV op),.int .i64 (xV op),.int .i64 (BH op),.string ⟨(vk op).toArray⟩])/\Below w.heap.size w w':=by
 have hx:=Xy (op - 7).toNat (by omega);rw[show (((op - 7).toNat:Nat):Int)=op - 7 by omega,show ((((op - 7).toNat+7:Nat)):Int)=op by omega] at hx;unfold aha at hx;generalize KV op=a at *;generalize xV op=b at *;generalize BH op=c at *;generalize ByteArray.mk (vk op).toArray=d at *;go_enter Tryz.func204,Tryz.ntmps204;go_wp2;refine o9 (v:=.agg #[.int .i64 a,.int .i64 b,.int .i64 c,.string d]) (by simp[results,Tryz.results204,go_sem]) rfl ⟨rfl,?_⟩;exact aB w _
theorem TH (a b c d:Value)(w:World):(Instr.field 271 (.agg #[a,b,c,d]) 0).run Tryz.prog w=.ok a w:=by kernel_rfl
theorem Xz (op:Int)(NM MD:ByteArray)(ng:Bool)(am:Option Addr)(wn cm:Nat)(ys:Bool)(ae:Option Addr)(wk ce:Nat)(a_:Int)(w:World) :
  Calls Tryz.prog 254 #[.agg #[.int .i64 op,.string NM,.string MD,.bool ng,.slice am wn cm,.bool ys,.slice ae wk ce,.int .i64 a_]] w λr w'=>r=.returned (.int .i64 (KV op))/\Below w.heap.size w w':=by
 have ahb:∀ W,Calls Tryz.prog 287 #[.int .i64 op] W λr w'=>r=.returned (.bool (decide (7<=op) && decide (op<=20)))/\W=w':=λW=>by
  by_cases h7:7<=op
  ·rw[kS h7,Bool.true_and]
   go_enter Tryz.func287,Tryz.ntmps287;go_wp2;go_ret;exact⟨rfl,rfl⟩
  ·rw[fu h7,Bool.false_and]
   have h7':op<7:=by omega
   go_enter Tryz.func287,Tryz.ntmps287;go_wp2;go_ret;exact⟨rfl,rfl⟩
 have HBn:=ay ahb;clear ahb;have hb0:=aB w (.cells (aT op NM MD ng (.slice am wn cm) ys (.slice ae wk ce) a_) 64)
 by_cases h:7<=op/\op<=20
 ·have HT:=ay (λW=>Vp op h.1 h.2 W)
  have HB:Hid (∀ W,Calls Tryz.prog 287 #[.int .i64 op] W λr w'=>r=.returned (.bool true)/\W=w'):=ay λW=>(HBn.out W).mono λr w' q=>⟨by rw[q.1,kS h.1,kS h.2];rfl,q.2⟩
  clear HBn h;have tf:=TH;generalize KV op=l at *;go_enter Tryz.func254,Tryz.ntmps254;go_wp2_with (first|(go_at_call 287;refine(HB.out _).mono ?_;rintro r w' ⟨rfl,rfl⟩)|(go_at_call 204;refine(HT.out _).mono ?_;rintro r w1 ⟨rfl,hb1⟩));go_ret;exact⟨rfl,hb0.trans (hb1.mono hb0.size)⟩
 ·have HB:Hid (∀ W,Calls Tryz.prog 287 #[.int .i64 op] W λr w'=>r=.returned (.bool false)/\W=w'):=ay λW=>(HBn.out W).mono λr w' q=>⟨by
   rw[q.1]
   by_cases h7:7<=op
   ·rw[fu (by omega:¬ op<=20),Bool.and_false]
   ·rw[fu h7,Bool.false_and],q.2⟩
  clear HBn
  have hl:KV op=if op=5 then 8 else if op=6 then 4 else if 21<=op/\op<=23 then 0 else 9:=by
   unfold KV
   repeat' (first|omega|split)
  rw[hl];clear hl
  by_cases h5:op=5
  ·subst h5
   clear h;go_enter Tryz.func254,Tryz.ntmps254;go_wp2_with (go_at_call 287;refine(HB.out _).mono ?_;rintro r w' ⟨rfl,rfl⟩);go_ret;exact⟨rfl,hb0⟩
  by_cases h6:op=6
  ·subst h6
   clear h h5;go_enter Tryz.func254,Tryz.ntmps254;go_wp2_with (go_at_call 287;refine(HB.out _).mono ?_;rintro r w' ⟨rfl,rfl⟩);go_ret;exact⟨rfl,hb0⟩
  rw[aP h5,aP h6];have t5:(op == 5)=false:=Fa.2 h5;have t6:(op == 6)=false:=Fa.2 h6
  by_cases h21:21<=op/\op<=23
  ·rw[bq h21]
   obtain⟨u1,u2⟩:=h21;clear h h5 h6;go_enter Tryz.func254,Tryz.ntmps254;go_wp2_with (go_at_call 287;refine(HB.out _).mono ?_;rintro r w' ⟨rfl,rfl⟩);go_ret;exact⟨rfl,hb0⟩
  ·rw[aP h21]
   by_cases u1:21<=op
   ·have u2:23<op:=by omega
    clear h h5 h6 h21;go_enter Tryz.func254,Tryz.ntmps254;go_wp2_with (go_at_call 287;refine(HB.out _).mono ?_;rintro r w' ⟨rfl,rfl⟩);go_ret;exact⟨rfl,hb0⟩
   ·have u2:op<21:=by omega
    clear h h5 h6 h21 u1;go_enter Tryz.func254,Tryz.ntmps254;go_wp2_with (go_at_call 287;refine(HB.out _).mono ?_;rintro r w' ⟨rfl,rfl⟩);go_ret;exact⟨rfl,hb0⟩
def bW (B' b:Nat)(acc:aH)(w:World)(r:Ending)(w':World):Prop:=r=.returned (.tuple #[])/\kW B' b acc w' 151/\Below B' w w'/\Lib.OthersKept 5 (some b) w w'
def vv (l:List ByteArray):aH:=l.flatMap λs=>s.data.toList
theorem XB {l:List ByteArray}(h:k<l.length):vv (l.take (k+1))=vv (l.take k)++l[k].data.toList:=by
 unfold vv;rw[EF h,abo,List.flatMap_singleton]
theorem adQ (l:List ByteArray)(k:Nat):(vv (l.take k)).length<=(vv l).length:=by
 unfold vv
 conv=>rhs;rw[<- List.take_append_drop k l,abo,bQ]
 omega
theorem C9 (ss:List ByteArray)(B' b sb cap:Nat)(fr:Nat × Nat)(acc:aH)(w:World)(hb:kW B' b acc w 151)(hs:w.heap[sb]?=some (.cells (ss.map Value.string).toArray 9 fr))(hB:B'<=w.heap.size)(hn:acc.length+(vv ss).length<=1099511627776)(hl:ss.length<=1000) :
  Calls Tryz.prog 123 #[.pointer (some ⟨b,0,none⟩),.slice (some ⟨sb,0,none⟩) ss.length cap] w (bW B' b (acc++vv ss) w):=by
 have H0:Hid (kW B' b acc w 151):=ay hb;have HS:=ay hs;clear hb hs;go_enter Tryz.func123,Tryz.ntmps123;go_wp2
 go_loopw [8] (λq wr=>∃ k:Nat,k<=ss.length/\q=.int .i64 k/\kW B' b (acc++vv (ss.take k)) wr 151/\Below B' w wr/\Lib.OthersKept 5 (some b) w wr) (λq _=>ss.length - (intOf q).toNat)
 case atStart=>exact⟨0,mD _,rfl,by simpa [vv] using H0.out,bY _ _,Lib.OthersKept.refl _ _ _⟩
 case round =>
  obtain⟨k,hk,rfl,hbd,hbl,hok⟩:=hrel;have hz:=hbl.size
  by_cases hlt:k<ss.length
  ·have hS2:=H0.out.block hok HS.out (by decide) (by decide)
   have hx:wr.cell? ⟨sb,k,none⟩=some (.string ss[k]):=by
    rw[bg hS2];simp[hlt]
   have hts:=XB hlt;have hle:=adQ ss (k+1);rw[hts,bQ,aS] at hle;have Vq:=ay hbd;have HTS:=ay hts;generalize ss[k]=S at hx hle HTS;generalize vv (ss.take k)=c at hle HTS Vq
   have hlen:(acc++c).length+S.size<=140737488355328:=by rw[bQ];omega
   have hnc:(⟨b,0,none⟩:Addr).block<wr.heap.size:=Vq.out.lt
   have qF:(k:Int)<(ss.length:Int):=by omega
   clear hbd hts hS2 hle;go_wp2_with (go_at_call 74;refine(nR B' b (acc++c) S _ Vq.out hlen (by omega)).mono ?_;rintro r w2 ⟨rfl,hb2,hl2,ho2⟩);exact⟨⟨k+1,by omega,by go_num,by rw[HTS.out,<- om];exact hb2,hbl.trans hl2,hok.trans ho2⟩,by simp[intOf];omega⟩
  ·obtain rfl:k=ss.length:=by omega
   have qF:decide ((ss.length:Int)<(ss.length:Int))=false:=fu (by omega);rw[Fe] at hbd;have Vq:=ay hbd;clear hbd;go_wp2
   go_end0
   exact⟨rfl,Vq.out,hbl,hok⟩
theorem sG {r:Option Nat}(hb:Below w.heap.size w w'):Lib.OthersKept 5 r w w':=λk o hk _ _=>(hb.block k (bU hk).1).trans hk
structure iP (w:World) (B' b:Nat) (acc:aH) (W:World):Prop where
 mH:kW B' b acc W 151
 lT:Below B' w W
 kept:Lib.OthersKept 5 (some b) w W
theorem kW.nE {T:TypeId}(h:kW B b acc w T)(hb:Below w.heap.size w w'):kW B b acc w' T:=by
 have key:∀ p,Lib.BuilderAtF T 5 B b p (Lib.byteCells acc) w->Lib.BuilderAtF T 5 B b p (Lib.byteCells acc) w':=by
  rintro p ⟨h1,v,h2,⟨h3,h4⟩,h5⟩;refine⟨h1,v,(hb.block b h.lt).trans h2,⟨h3,?_⟩,h5⟩
  rcases h4 with h4|⟨g,cap,cur,fz,q1,q2,q3,q4⟩
  ·exact Or.inl h4
  ·exact Or.inr ⟨g,cap,cur,fz,q1,q2,(hb.block g (bU q3).1).trans q3,q4⟩
 rcases h with h|h
 ·exact Or.inl (key _ h)
 ·exact Or.inr (key _ h)
theorem iP.start (h:kW B' b acc w 151):iP w B' b acc w:=⟨h,bY _ _,Lib.OthersKept.refl _ _ _⟩
theorem iP.below (h:iP w B' b acc W)(hb:Below W.heap.size W W')(hB:B'<=w.heap.size):iP w B' b acc W' :=
 ⟨h.mH.nE hb,h.lT.trans (hb.mono (iY hB h.lT.size)),h.kept.trans (sG hb)⟩
theorem iP.write {acc':aH}(h:iP w B' b acc W)(hw:bW B' b acc' W r W'):iP w B' b acc' W':=⟨hw.2.1,h.lT.trans hw.2.2.1,h.kept.trans hw.2.2.2⟩
theorem iP.box {acc0:aH}(h:iP w B' b acc W)(h0:kW B' b acc0 w 151){cs:Array Value}{T:TypeId}{fr:Nat × Nat}(hk:w.heap[k]?=some (.cells cs T fr))(hT:T≠151)(he:T≠5):W.heap[k]?=some (.cells cs T fr):=h0.block h.kept hk hT he
theorem bW.from {w1:World}(hb:Below w.heap.size w w1)(hB:B'<=w.heap.size)(h:iP w1 B' b acc W):bW B' b acc w (.returned (.tuple #[])) W :=
 ⟨rfl,h.mH,(hb.mono hB).trans h.lT,(sG hb).trans h.kept⟩
theorem bW.eq (h:bW B' b acc w r W):r=.returned (.tuple #[]):=h.1
theorem dV (S:ByteArray)(B' b:Nat)(acc:aH)(w:World)(hb:kW B' b acc w 151)(hB:B'<=w.heap.size)(hn:acc.length+S.size<=1099511627776) :
  Calls Tryz.prog 123 #[.pointer (some ⟨b,0,none⟩),.slice (some ⟨w.heap.size,0,none⟩) 1 1] (w.alloc (.cells #[.string S] 9)) (bW B' b (acc++S.data.toList) w):=by
 have hal:=aB w (.cells #[.string S] 9);have h:=C9 [S] B' b w.heap.size 1 (0,0) acc (w.alloc (.cells #[.string S] 9)) (hb.alloc _) (aZ w _) (by simp;omega) (by simp[vv,aS];omega) (by simp);rw[show vv [S]=S.data.toList by simp[vv]] at h
 exact h.mono λr w' q=>⟨q.1,q.2.1,(hal.mono hB).trans q.2.2.1,(sG hal).trans q.2.2.2⟩
theorem yR (S T:ByteArray)(B' b:Nat)(acc:aH)(w:World)(hb:kW B' b acc w 151)(hB:B'<=w.heap.size)(hn:acc.length+S.size+T.size<=1099511627776) :
  Calls Tryz.prog 123 #[.pointer (some ⟨b,0,none⟩),.slice (some ⟨w.heap.size,0,none⟩) 2 2] (w.alloc (.cells #[.string S,.string T] 9)) (bW B' b (acc++(S.data.toList++T.data.toList)) w):=by
 have hal:=aB w (.cells #[.string S,.string T] 9);have h:=C9 [S,T] B' b w.heap.size 2 (0,0) acc (w.alloc (.cells #[.string S,.string T] 9)) (hb.alloc _) (aZ w _) (by simp;omega) (by simp[vv,aS];omega) (by simp);rw[show vv [S,T]=S.data.toList++T.data.toList by simp[vv]] at h
 exact h.mono λr w' q=>⟨q.1,q.2.1,(hal.mono hB).trans q.2.2.1,(sG hal).trans q.2.2.2⟩
theorem yS (S T U:ByteArray)(B' b:Nat)(acc:aH)(w:World)(hb:kW B' b acc w 151)(hB:B'<=w.heap.size)(hn:acc.length+S.size+T.size+U.size<=1099511627776) :
  Calls Tryz.prog 123 #[.pointer (some ⟨b,0,none⟩),.slice (some ⟨w.heap.size,0,none⟩) 3 3] (w.alloc (.cells #[.string S,.string T,.string U] 9)) (bW B' b (acc++(S.data.toList++(T.data.toList++U.data.toList))) w):=by
 have hal:=aB w (.cells #[.string S,.string T,.string U] 9);have h:=C9 [S,T,U] B' b w.heap.size 3 (0,0) acc (w.alloc (.cells #[.string S,.string T,.string U] 9)) (hb.alloc _) (aZ w _) (by simp;omega) (by simp[vv,aS];omega) (by simp);rw[show vv [S,T,U]=S.data.toList++(T.data.toList++U.data.toList) by simp[vv]] at h
 exact h.mono λr w' q=>⟨q.1,q.2.1,(hal.mono hB).trans q.2.2.1,(sG hal).trans q.2.2.2⟩
def TI (e:PZ):Prop:=∀ (B B' b:Nat) (am:Option Addr) (wn cm:Nat) (ae:Option Addr) (ce:Nat) (acc:aH) (w:World),nD YA (λk=>k<B) w (.slice am wn cm) (.slice ae e.aA.length ce) e->B<=B'->kW B' b acc w 151->B'<=w.heap.size->acc.length+e.text.length<=1099511627776 ->
  Calls Tryz.prog 124 #[.pointer (some ⟨b,0,none⟩),.agg #[.int .i64 e.op,.string ⟨e.name.toArray⟩,.string ⟨e.module.toArray⟩,.bool (decide (e.num<0)),.slice am wn cm,.bool e.yes,.slice ae e.aA.length ce,.int .i64 e.at_]] w (bW B' b (acc++e.text) w)
def Da (e:PZ):Prop:=∀ (least:Int) (B B' b:Nat) (am:Option Addr) (wn cm:Nat) (ae:Option Addr) (ce:Nat) (acc:aH) (w:World),nD YA (λk=>k<B) w (.slice am wn cm) (.slice ae e.aA.length ce) e->B<=B'->kW B' b acc w 151->B'<=w.heap.size->acc.length+(tC least (e.op,e.text)).length<=1099511627776 ->
  Calls Tryz.prog 201 #[.pointer (some ⟨b,0,none⟩),.agg #[.int .i64 e.op,.string ⟨e.name.toArray⟩,.string ⟨e.module.toArray⟩,.bool (decide (e.num<0)),.slice am wn cm,.bool e.yes,.slice ae e.aA.length ce,.int .i64 e.at_],.int .i64 least] w (bW B' b (acc++tC least (e.op,e.text)) w)
theorem adR (e:PZ)(he:TI e):Da e:=by
 intro least B B' b am wn cm ae ce acc w h nS hbd hB hn;have hal:=aB w (.cells (aT e.op ⟨e.name.toArray⟩ ⟨e.module.toArray⟩ (decide (e.num<0)) (.slice am wn cm) e.yes (.slice ae e.aA.length ce) e.at_) 64);have hN:=aZ w (.cells (aT e.op ⟨e.name.toArray⟩ ⟨e.module.toArray⟩ (decide (e.num<0)) (.slice am wn cm) e.yes (.slice ae e.aA.length ce) e.at_) 64);have hb1:=hbd.nE hal
 have hlv:=λW=>Xz e.op ⟨e.name.toArray⟩ ⟨e.module.toArray⟩ (decide (e.num<0)) am wn cm e.yes ae e.aA.length ce e.at_ W
 have HLV:=ay hlv;have HE:=ay (λ(acc':aH) (W:World) (hW:Below B' w W) (hb:kW B' b acc' W 151) (hn':acc'.length+e.text.length<=1099511627776)=>he B B' b am wn cm ae ce acc' W (h.frame (bA.uD hW (λk hk=>by omega))) nS hb (iY hB hW.size) hn')
 have hp:tC least (e.op,e.text)=if KV e.op<least then [40]++e.text++[41] else e.text:=rfl
 have HP:=ay hp;clear h he hbd hlv hp;generalize tC least (e.op,e.text)=out at *;generalize e.text=tx at *;generalize decide (e.num<0)=ng at *;generalize e.op=op at *;generalize KV op=lv at *;have zn:=hal.mono hB
 by_cases hl:lv<least
 ·have HO:Hid (out=[40]++tx++[41]):=ay (by rw[HP.out,bq hl])
  have hln:acc.length+1+tx.length+1<=1099511627776:=by
   have:=congrArg List.length HO.out;simp only[bQ,dN,iF] at this;omega
  clear HP hn;go_enter Tryz.func201,Tryz.ntmps201
  go_upto_region 1 with fail
  change Code.wp _ _ _ _ (w.alloc (.cells (aT op ⟨e.name.toArray⟩ ⟨e.module.toArray⟩ ng (.slice am wn cm) e.yes (.slice ae e.aA.length ce) e.at_) 64));generalize w.alloc _=w1 at hal hN hb1 zn |-;have hB1:=iY hB hal.size;obtain⟨y0,y1,y2,y3,y4,y5,y6,y7⟩:=aL hN;have hl1:=(bU hN).1
  go_upto_region 3 with (go_at_call 254;refine(HLV.out _).mono ?_;rintro r w2 ⟨rfl,hb2⟩)
  have s2:=(iP.start hb1).below hb2 hB1;have hz2:=s2.lT.size;clear y0 y1 y2 y3 y4 y5 y6 y7
  go_upto_region 4 with (go_at_call 123;refine(dV ⟨#[40]⟩ B' b acc w2 s2.mH (by omega) (by show acc.length+1<=_;omega)).mono ?_;rintro r w3 h3;obtain rfl:=h3.eq)
  have s3:=s2.write h3;have hz3:=s3.lT.size;obtain⟨y0,y1,y2,y3,y4,y5,y6,y7⟩:=aL (s3.box hb1 hN (by decide) (by decide));have HE3:=ay (HE.out (acc++[40]) w3 (zn.trans s3.lT) s3.mH (by rw[bQ];simp;omega))
  go_upto_region 5 with (go_at_call 124;refine HE3.out.mono ?_;rintro r w4 h4;obtain rfl:=h4.eq)
  have s4:=s3.write h4;have D7:=s4.lT.size;clear y0 y1 y2 y3 y4 y5 y6 y7;go_wp2_with (go_at_call 123;refine(dV ⟨#[41]⟩ B' b (acc++[40]++tx) w4 s4.mH (by omega) (by show (acc++[40]++tx).length+1<=_;simp;omega)).mono ?_;rintro r w5 h5;obtain rfl:=h5.eq)
  go_end0
  have:=bW.from hal hB (s4.write h5)
  rw[HO.out]
  simpa [om] using this
 ·have HO:Hid (out=tx):=ay (by rw[HP.out,aP hl])
  have hln:acc.length+tx.length<=1099511627776:=by rw[<- HO.out];exact hn
  have hl':least<=lv:=by omega
  clear HP hn hl;go_enter Tryz.func201,Tryz.ntmps201
  go_upto_region 1 with fail
  change Code.wp _ _ _ _ (w.alloc (.cells (aT op ⟨e.name.toArray⟩ ⟨e.module.toArray⟩ ng (.slice am wn cm) e.yes (.slice ae e.aA.length ce) e.at_) 64));generalize w.alloc _=w1 at hal hN hb1 zn |-;have hB1:=iY hB hal.size;obtain⟨y0,y1,y2,y3,y4,y5,y6,y7⟩:=aL hN
  go_upto_region 2 with (go_at_call 254;refine(HLV.out _).mono ?_;rintro r w2 ⟨rfl,hb2⟩)
  have s2:=(iP.start hb1).below hb2 hB1;clear y0 y1 y2 y3 y4 y5 y6 y7;obtain⟨y0,y1,y2,y3,y4,y5,y6,y7⟩:=aL (s2.box hb1 hN (by decide) (by decide));have HE3:=ay (HE.out acc w2 (zn.trans s2.lT) s2.mH hln);go_wp2_with (go_at_call 124;refine HE3.out.mono ?_;rintro r w4 h4;obtain rfl:=h4.eq)
  go_end0
  rw[HO.out]
  exact bW.from hal hB (s2.write h4)
theorem adS (op:Int):0<=KV op:=by
 unfold KV
 repeat' (first|omega|split)
theorem Db (k:Int × aH):tC 0 k=k.2:=by
 have:=adS k.1;unfold tC;rw[aP (by omega)]
def dG:List ByteArray->List PZ->aH
 | s :: ss,x :: xs=>s.data.toList++x.text++dG ss xs
 | _,_=>[]
theorem Em:∀ {ss:List ByteArray} {xs:List PZ} {k:Nat} (h:k<ss.length) (h2:k<xs.length),dG (ss.take (k+1)) (xs.take (k+1))=dG (ss.take k) (xs.take k)++(ss[k].data.toList++xs[k].text)
 | [],_,_,h,_=>absurd h (by simp)
 | _ :: _,[],_,_,h=>absurd h (by simp)
 | s :: ss,x :: xs,0,_,_=>by simp[dG]
 | s :: ss,x :: xs,k+1,h,h2=>by
  have ih:=Em (ss:=ss) (xs:=xs) (k:=k) (by simpa using h) (by simpa using h2);simp only[List.take_succ_cons,dG,JG] at ih |-;rw[ih]
  simp
theorem Ld:∀ (ss:List ByteArray) (xs:List PZ) (k:Nat),(dG (ss.take k) (xs.take k)).length<=(dG ss xs).length
 | [],xs,k=>by simp[dG]
 | s :: ss,[],k=>by simp[dG]
 | s :: ss,x :: xs,0=>by simp[dG]
 | s :: ss,x :: xs,k+1=>by
  have:=Ld ss xs k;simp only[List.take_succ_cons,dG,bQ];omega
theorem lS.at {ks:List PZ}(h:lS B w ae ks)(hW:Below B w W)(hk:k<ks.length):∃ b off am wn cm ak ck,ae=some ⟨b,off,none⟩/\b<B/\nD YA (λb=>b<B) W (.slice am wn cm) (.slice ak ks[k].aA.length ck) ks[k] /\
  W.cell? ⟨b,off+k * 8,none⟩=some (.int .i64 ks[k].op)/\W.cell? ⟨b,off+k * 8+1,none⟩=some (.string ⟨ks[k].name.toArray⟩)/\W.cell? ⟨b,off+k * 8+2,none⟩=some (.string ⟨ks[k].module.toArray⟩)/\W.cell? ⟨b,off+k * 8+3,none⟩=some (.bool (decide (ks[k].num<0)))/\W.cell? ⟨b,off+k * 8+4,none⟩=some (.slice am wn cm)/\W.cell? ⟨b,off+k * 8+5,none⟩=some (.bool ks[k].yes)/\W.cell? ⟨b,off+k * 8+6,none⟩=some (.slice ak ks[k].aA.length ck)/\W.cell? ⟨b,off+k * 8+7,none⟩=some (.int .i64 ks[k].at_):=by
 obtain⟨b,off,h1,h2,h3,h4⟩:=h (by omega);obtain⟨am,wn,cm,ak,ck,h5,h6⟩:=h4 k hk;exact⟨b,off,am,wn,cm,ak,ck,h1,h2,h5.frame (bA.uD hW (λb hb=>hb)),(hW.cell (p:=⟨b,off+k * 8,none⟩) h2).trans (h6 0 _ rfl),(hW.cell (p:=⟨b,off+k * 8+1,none⟩) h2).trans (h6 1 _ rfl),(hW.cell (p:=⟨b,off+k * 8+2,none⟩) h2).trans (h6 2 _ rfl),(hW.cell (p:=⟨b,off+k * 8+3,none⟩) h2).trans (h6 3 _ rfl),(hW.cell (p:=⟨b,off+k * 8+4,none⟩) h2).trans (h6 4 _ rfl),(hW.cell (p:=⟨b,off+k * 8+5,none⟩) h2).trans (h6 5 _ rfl),(hW.cell (p:=⟨b,off+k * 8+6,none⟩) h2).trans (h6 6 _ rfl),(hW.cell (p:=⟨b,off+k * 8+7,none⟩) h2).trans (h6 7 _ rfl)⟩
theorem Dc (op:Int)(NM MD:ByteArray)(ng:Bool)(am:Option Addr)(wn cm:Nat)(ys:Bool)(ae:Option Addr)(ce:Nat)(a_:Int)(ks:List PZ)(ss:List ByteArray)(hl:ss.length<=ks.length)(hl2:ss.length<=1000)(hk:∀ x∈ks,Da x)(B B' b sb cap:Nat)(fr:Nat × Nat)(acc:aH)(w:World)
  (h:lS B w ae ks) (nS:B<=B') (hbd:kW B' b acc w 151) (hs:w.heap[sb]?=some (.cells (ss.map Value.string).toArray 9 fr)) (hB:B'<=w.heap.size) (hn:acc.length+(dG ss ks).length<=1099511627776) :
  Calls Tryz.prog 202 #[.pointer (some ⟨b,0,none⟩),.agg #[.int .i64 op,.string NM,.string MD,.bool ng,.slice am wn cm,.bool ys,.slice ae ks.length ce,.int .i64 a_],.slice (some ⟨sb,0,none⟩) ss.length cap] w (bW B' b (acc++dG ss ks) w):=by
 have hal:=aB w (.cells (aT op NM MD ng (.slice am wn cm) ys (.slice ae ks.length ce) a_) 64);have hN:=aZ w (.cells (aT op NM MD ng (.slice am wn cm) ys (.slice ae ks.length ce) a_) 64);have hb1:=hbd.nE hal;have hs1:=(hal.block sb (bU hs).1).trans hs;have zn:=hal.mono hB;have HH:=ay h;have HK:=ay hk;clear h hk hbd hs;go_enter Tryz.func202,Tryz.ntmps202
 go_upto_region 1 with fail
 change Code.wp _ _ _ _ (w.alloc (.cells (aT op NM MD ng (.slice am wn cm) ys (.slice ae ks.length ce) a_) 64));generalize w.alloc _=w1 at hal hN hb1 zn hs1 |-;have hB1:=iY hB hal.size;have Jz:=ay hs1;have HN:=ay hN;have HB1:=ay hb1;clear hs1 hN hb1;go_wp2
 go_loopw [10] (λq wr=>∃ k:Nat,k<=ss.length/\q=.int .i64 k/\iP w1 B' b (acc++dG (ss.take k) (ks.take k)) wr) (λq _=>ss.length - (intOf q).toNat)
 case atStart=>exact⟨0,mD _,rfl,by simpa [dG] using iP.start HB1.out⟩
 case round =>
  obtain⟨k,hkl,rfl,st⟩:=hrel;have hz:=st.lT.size
  by_cases hlt:k<ss.length
  ·have hS2:=st.box HB1.out Jz.out (by decide) (by decide)
   have hx:wr.cell? ⟨sb,k,none⟩=some (.string ss[k]):=by
    rw[bg hS2];simp[hlt]
   have hsn:=Em hlt (by omega:k<ks.length);have hle:=Ld ss ks (k+1);rw[hsn,bQ,bQ,aS] at hle;have HD:=ay (HK.out _ (oQ (by omega:k<ks.length)));have HKZ:=ay (λW hW=>HH.out.at (W:=W) hW (by omega:k<ks.length));have tZ:=ay hsn;have HST:=ay st;clear hS2 hsn st;generalize ss[k]=S at hx hle tZ;generalize dG (ss.take k) (ks.take k)=c at hle tZ HST;generalize ks[k]'(by omega)=x at hle HD HKZ tZ
   have qF:(k:Int)<(ss.length:Int):=by omega
   have ahc:(k:Int)<(ks.length:Int):=by omega
   have hln:acc.length+c.length+(S.size+x.text.length)<=1099511627776:=by omega
   clear hle
   go_upto_region 5 with (go_at_call 123;refine(dV S B' b (acc++c) wr HST.out.mH (by omega) (by rw[bQ];omega)).mono ?_;rintro r w2 h2;obtain rfl:=h2.eq)
   have s2:=HST.out.write h2;have hz2:=s2.lT.size;obtain⟨y0,y1,y2,y3,y4,y5,y6,y7⟩:=aL (s2.box HB1.out HN.out (by decide) (by decide));obtain⟨kb,off,rC,rD,rE,N8,ck1,rfl,hkB,hE,x0,x1,x2,x3,x4,x5,x6,x7⟩:=HKZ.out w2 ((zn.trans s2.lT).mono nS);have HC:=ay (HD.out 0 B B' b rC rD rE N8 ck1 (acc++c++S.data.toList) w2 hE nS s2.mH (by omega) (by rw[Db];simp only[bQ,aS];omega));have HSS:=ay s2;clear hE HST h2 s2 HKZ HD y0 y1 y2 y3 y4 y5 y7 hx;go_wp2_with (go_at_call 201;refine HC.out.mono ?_;rintro r w3 h3;obtain rfl:=h3.eq);refine⟨⟨k+1,by omega,by go_num,?_⟩,by simp[intOf];omega⟩;have:=HSS.out.write h3;rw[Db] at this;rw[tZ.out]
   simpa [om] using this
  ·obtain rfl:k=ss.length:=by omega
   have qF:decide ((ss.length:Int)<(ss.length:Int))=false:=fu (by omega)
   have hp:dG (ss.take ss.length) (ks.take ss.length)=dG ss ks:=by
    have:∀ (ss:List ByteArray) (ks:List PZ),dG (ss.take ss.length) (ks.take ss.length)=dG ss ks:=by
     intro ss
     induction ss with
     | nil=>intro ks;simp[dG]
     | cons s ss ih =>
      intro ks
      cases ks with
      | nil=>simp[dG]
      | cons x xs=>simp only[dN,List.take_succ_cons,dG,ih]
    exact this ss ks
   rw[hp] at st;have HST:=ay st;clear st hp;go_wp2
   go_end0
   exact bW.from hal hB HST.out
theorem uf:∀ (l:List aH) (t:aH),bR (l++[t])=if l=[] then t else bR l++[44,32]++t
 | [],t=>rfl
 | [a],t=>by simp[bR]
 | a :: b :: l,t=>by
  have ih:=uf (b :: l) t;rw[aP (by simp)] at ih |-;simp only[kF] at ih |-;rw[bR,ih,bR]
  simp
theorem Df:∀ (l r:List aH),(bR l).length<=(bR (l++r)).length
 | l,[]=>by simp
 | l,t :: r=>by
  have h:=Df (l++[t]) r;rw[om] at h;have h2:=uf l t;refine iY ?_ h;rw[h2]
  split
  ·rename_i q;subst q;simp[bR]
  ·simp only[bQ];omega
 termination_by _ r=>r.length
def abI (f:FuncId)(lb:Array Value)(B' b:Nat)(w:World)(x:PZ):Prop:=∀ (acc:aH) (W:World) (am:Option Addr) (wn cm:Nat) (ak:Option Addr) (ck:Nat),iP w B' b acc W->nD YA (λk=>k<B') W (.slice am wn cm) (.slice ak x.aA.length ck) x->acc.length+x.text.length<=1099511627776 ->
 Calls Tryz.prog f (#[.agg #[.int .i64 x.op,.string ⟨x.name.toArray⟩,.string ⟨x.module.toArray⟩,.bool (decide (x.num<0)),.slice am wn cm,.bool x.yes,.slice ak x.aA.length ck,.int .i64 x.at_]]++lb) W (bW B' b (acc++x.text) W)
theorem abJ (f:FuncId)(lb:Array Value)(eg:∀ args w,(callFunc f args).run Tryz.prog w=.ok (.enter f args) w)(ks:List PZ)(B B' b:Nat)(ae:Option Addr)(ce:Nat)(acc:aH)(w:World)(hk:∀ x∈ks,abI f lb B' b w x)(h:lS B w ae ks)(nS:B<=B')(hbd:kW B' b acc w 151)(hB:B'<=w.heap.size)(hn:acc.length+(bR (ks.map PZ.text)).length<=1099511627776)(hkl:ks.length<=1000000) :
  Calls Tryz.prog 255 #[.pointer (some ⟨b,0,none⟩),.slice ae ks.length ce,.func (.func f) #[] lb] w (bW B' b (acc++bR (ks.map PZ.text)) w):=by
 have HH:=ay h;have HK:=ay hk;have HB:=ay hbd;clear h hk hbd;go_enter Tryz.func255,Tryz.ntmps255;go_wp2
 go_loopw [6,10] (λ_ q wr=>∃ k:Nat,k<=ks.length/\q=.int .i64 k/\iP w B' b (acc++bR ((ks.map PZ.text).take k)) wr) (λ_ q _=>ks.length - (intOf q).toNat)
 case atStart=>exact⟨0,mD _,rfl,by simpa [bR] using iP.start HB.out⟩
 case round =>
  obtain⟨k,hkk,rfl,st⟩:=hrel;have hz:=st.lT.size
  by_cases hlt:k<ks.length
  ·have hlm:k<(ks.map PZ.text).length:=by simpa using hlt
   have hts:(ks.map PZ.text).take (k+1)=(ks.map PZ.text).take k++[ks[k].text]:=by rw[EF hlm];simp
   have hsn:=uf ((ks.map PZ.text).take k) ks[k].text;rw[<- hts] at hsn;have hle:=Df ((ks.map PZ.text).take (k+1)) ((ks.map PZ.text).drop (k+1));rw[List.take_append_drop] at hle
   have hnil:((ks.map PZ.text).take k=[])↔k=0:=by
    constructor
    ·intro q
     have:=congrArg List.length q;rw[qX,iF] at this;omega
    ·rintro rfl;rfl
   simp only[hnil] at hsn;have HD:=ay (HK.out _ (oQ hlt));obtain⟨kb,off,rC,rD,rE,N8,ck1,rfl,hkB,hE,x0,x1,x2,x3,x4,x5,x6,x7⟩:=HH.out.at (st.lT.mono nS) hlt;have tZ:=ay hsn;have HST:=ay st
   have hc0:k=0->bR ((ks.map PZ.text).take k)=[]:=by rintro rfl;rfl
   have HC0:=ay hc0;clear hsn hts hlm hnil st hc0;generalize bR ((ks.map PZ.text).take k)=c at tZ HST HC0;generalize hcc:bR ((ks.map PZ.text).take (k+1))=c2 at hle tZ;have Vr:=ay hcc;clear hcc;generalize ks[k]=x at *
   have qF:(k:Int)<(ks.length:Int):=by omega
   have hln:acc.length+c2.length<=1099511627776:=by omega
   have hal:=aB wr (.cells (aT x.op ⟨x.name.toArray⟩ ⟨x.module.toArray⟩ (decide (x.num<0)) (.slice rC rD rE) x.yes (.slice N8 x.aA.length ck1) x.at_) 64);have hN:=aZ wr (.cells (aT x.op ⟨x.name.toArray⟩ ⟨x.module.toArray⟩ (decide (x.num<0)) (.slice rC rD rE) x.yes (.slice N8 x.aA.length ck1) x.at_) 64);have s1:=HST.out.below hal hB;have hE1:=hE.frame (bA.uD (hal.mono (iY hB hz)) (λb hb=>by omega:∀ b,b<B->b<B'));clear hle hE
   go_upto_region 3 with fail
   change Code.wp _ _ _ _ (wr.alloc (.cells (aT x.op ⟨x.name.toArray⟩ ⟨x.module.toArray⟩ (decide (x.num<0)) (.slice rC rD rE) x.yes (.slice N8 x.aA.length ck1) x.at_) 64));clear x0 x1 x2 x3 x4 x5 x6 x7;generalize wr.alloc _=w1 at hal hN s1 hE1 |-;have hz1:=hal.size
   by_cases h0:k=0
   ·have HS0:Hid (c2=x.text):=ay (by rw[tZ.out,bq h0])
    have hc0:=HC0.out h0;subst hc0;rw[List.append_nil] at s1;have HX:=ay (HD.out acc w1 rC rD rE N8 ck1 s1 (hE1.imp λb hb _=>by omega) (by rw[<- HS0.out];exact hln));have CJ:Hid (bR ((ks.map PZ.text).take (k+1))=c2):=Vr;have Jz:=ay s1;obtain⟨y0,y1,y2,y3,y4,y5,y6,y7⟩:=aL hN
    have adT:(k:Int)<=0:=by omega
    clear tZ HST HD hal hN s1 hE1 HC0 Vr h0;go_wp2_with (go_at_fn f;refine HX.out.mono ?_;rintro r w3 h3;obtain rfl:=h3.eq);refine⟨⟨k+1,by omega,by go_num,?_⟩,by simp[intOf];omega⟩;rw[CJ.out,HS0.out];exact Jz.out.write h3
   ·have HS0:Hid (c2=c++[44,32]++x.text):=ay (by rw[tZ.out,aP h0])
    have hl2:acc.length+c.length+2+x.text.length<=1099511627776:=by
     have:=congrArg List.length HS0.out;simp only[bQ,dN,iF] at this;omega
    have adT:(0:Int)<(k:Int):=by omega
    have CJ:Hid (bR ((ks.map PZ.text).take (k+1))=c2):=Vr;clear h0 tZ HC0 Vr hln
    go_upto_region 5 with (go_at_call 123;refine(dV ⟨#[44,32]⟩ B' b (acc++c) w1 s1.mH (by omega) (by show (acc++c).length+2<=_;rw[bQ];omega)).mono ?_;rintro r w2 h2;obtain rfl:=h2.eq)
    have s2:=s1.write h2;obtain⟨y0,y1,y2,y3,y4,y5,y6,y7⟩:=aL (s1.mH.block h2.2.2.2 hN (by decide) (by decide));have HX:=ay (HD.out (acc++c++[44,32]) w2 rC rD rE N8 ck1 s2 ((hE1.frame (bA.uD h2.2.2.1 λb hb=>by omega)).imp λb hb _=>by omega) (by simp only[bQ,dN,iF];omega));have Jz:=ay s2;clear HST HD hal hN s1 hE1 s2 h2;go_wp2_with (go_at_fn f;refine HX.out.mono ?_;rintro r w3 h3;obtain rfl:=h3.eq);refine⟨⟨k+1,by omega,by go_num,?_⟩,by simp[intOf];omega⟩;have:=Jz.out.write h3;rw[CJ.out,HS0.out]
    simpa [om] using this
  ·obtain rfl:k=ks.length:=by omega
   have qF:decide ((ks.length:Int)<(ks.length:Int))=false:=fu (by omega);rw[show (ks.map PZ.text).take ks.length=ks.map PZ.text by rw[DL (by simp)]] at st;have HST:=ay st;clear st;go_wp2
   go_end0
   exact⟨rfl,HST.out.mH,HST.out.lT,HST.out.kept⟩
theorem XC (x:PZ)(hx:Da x)(B' b tb:Nat)(acc0:aH)(w:World)(hb0:kW B' b acc0 w 151)(ht:w.heap[tb]?=some (.cells #[.pointer (some ⟨b,0,none⟩)] 145 (0,0)))(hB:B'<=w.heap.size) :
  abI 256 #[.pointer (some ⟨tb,0,none⟩)] B' b w x:=by
 intro acc W am wn cm ak ck st hE hn;have hT:=st.box hb0 ht (by decide) (by decide);have hal:=aB W (.cells (aT x.op ⟨x.name.toArray⟩ ⟨x.module.toArray⟩ (decide (x.num<0)) (.slice am wn cm) x.yes (.slice ak x.aA.length ck) x.at_) 64);have hN:=aZ W (.cells (aT x.op ⟨x.name.toArray⟩ ⟨x.module.toArray⟩ (decide (x.num<0)) (.slice am wn cm) x.yes (.slice ak x.aA.length ck) x.at_) 64);have hBW:=iY hB st.lT.size;have hT1:=(hal.block tb (bU hT).1).trans hT;have s1:=(iP.start st.mH).below hal hBW;have HX:=ay (λhl=>hx 0 B' B' b am wn cm ak ck acc (W.alloc (.cells (aT x.op ⟨x.name.toArray⟩ ⟨x.module.toArray⟩ (decide (x.num<0)) (.slice am wn cm) x.yes (.slice ak x.aA.length ck) x.at_) 64)) (hE.frame (bA.of hal)) (bI _) s1.mH (iY hBW hal.size) hl);rw[Db] at HX;have Lc:=ay (HX.out hn);show Calls _ _ #[_,_] _ _;clear hE hn hx HX st hT ht hb0;go_enter Tryz.func256,Tryz.ntmps256
 go_upto_region 1 with fail
 change Code.wp _ _ _ _ (W.alloc (.cells (aT x.op ⟨x.name.toArray⟩ ⟨x.module.toArray⟩ (decide (x.num<0)) (.slice am wn cm) x.yes (.slice ak x.aA.length ck) x.at_) 64));generalize W.alloc _=w1 at hal hN hT1 s1 Lc |-;obtain⟨y0,y1,y2,y3,y4,y5,y6,y7⟩:=aL hN
 have yt:w1.cell? ⟨tb,0,none⟩=some (.pointer (some ⟨b,0,none⟩)):=by rw[bg hT1];rfl
 go_wp2_with (go_at_call 201;refine Lc.out.mono ?_;rintro r w3 h3;obtain rfl:=h3.eq)
 go_end0
 exact⟨rfl,h3.2.1,(hal.mono hBW).trans h3.2.2.1,(sG hal).trans h3.2.2.2⟩
theorem iP.drew {w W:World}{B' b:Nat}{acc:aH}(h:iP w B' b acc W):iP w B' b acc W.drew:=⟨h.mH.drew,h.lT.drew,h.kept.drew⟩
theorem qU {x y z u:Value}(h:w.heap[b]?=some (.cells #[x,y,z,u] 271 (0,0))):w.cell? ⟨b,0,none⟩=some x/\w.cell? ⟨b,1,none⟩=some y/\w.cell? ⟨b,2,none⟩=some z/\w.cell? ⟨b,3,none⟩=some u:=by
 refine⟨?_,?_,?_,?_⟩<;>(rw[bg h];rfl)
theorem abK (op:Int)(NM MD:ByteArray)(ng:Bool)(am:Option Addr)(wn cm:Nat)(ys:Bool)(ae:Option Addr)(ce:Nat)(a_:Int)(ks:List PZ)(hk:∀ x∈ks,Da x)(B B' b:Nat)(acc:aH)(w:World)(hkl:ks.length<=1000000)
  (h:lS B w ae ks) (nS:B<=B') (hbd:kW B' b acc w 151) (hB:B'<=w.heap.size) (out:aH) (ho:out=(if MD.data.toList=[] then [] else MD.data.toList++[46])++NM.data.toList++[40]++bR (ks.map PZ.text)++[41]) (hn:acc.length+out.length<=1099511627776) :
  Calls Tryz.prog 203 #[.pointer (some ⟨b,0,none⟩),.agg #[.int .i64 op,.string NM,.string MD,.bool ng,.slice am wn cm,.bool ys,.slice ae ks.length ce,.int .i64 a_]] w (bW B' b (acc++out) w):=by
 have hlo:=congrArg List.length ho;have HO:=ay ho;clear ho;have hal:=(aB w (.cells #[.pointer (some ⟨b,0,none⟩)] 145)).alloc (by simp) (.cells (aT op NM MD ng (.slice am wn cm) ys (.slice ae ks.length ce) a_) 64);have hT:=(iB (w.alloc (.cells #[.pointer (some ⟨b,0,none⟩)] 145)) (.cells (aT op NM MD ng (.slice am wn cm) ys (.slice ae ks.length ce) a_) 64) w.heap.size (by simp)).trans (aZ w (.cells #[.pointer (some ⟨b,0,none⟩)] 145));have hN:=aZ (w.alloc (.cells #[.pointer (some ⟨b,0,none⟩)] 145)) (.cells (aT op NM MD ng (.slice am wn cm) ys (.slice ae ks.length ce) a_) 64);rw[oU] at hN;have hb1:=hbd.nE hal;have zn:=hal.mono hB;have HH:=ay h;have HK:=ay hk;clear h hk hbd;go_enter Tryz.func203,Tryz.ntmps203
 go_upto_region 1 with fail
 change Code.wp _ _ _ _ ((w.alloc (.cells #[.pointer (some ⟨b,0,none⟩)] 145)).alloc (.cells (aT op NM MD ng (.slice am wn cm) ys (.slice ae ks.length ce) a_) 64));generalize (w.alloc _).alloc _=w1 at hal hN hT hb1 zn |-;have hB1:=iY hB hal.size;obtain⟨y0,y1,y2,y3,y4,y5,y6,y7⟩:=aL hN
 have yt:w1.cell? ⟨w.heap.size,0,none⟩=some (.pointer (some ⟨b,0,none⟩)):=by rw[bg hT];rfl
 have HB1:=ay hb1;have HN:=ay hN;have HT:=ay hT
 obtain⟨md,hmd⟩:∃ md,md=if MD.data.toList=[] then [] else MD.data.toList++[46]:=⟨_,rfl⟩
 rw[<- hmd] at hlo;have HMD:=ay hmd;clear hb1 hN hT hmd;simp only[bQ,aS,dN,iF] at hlo
 have hle:acc.length+md.length+NM.size+1+(bR (ks.map PZ.text)).length+1<=1099511627776:=by omega
 clear hlo hn
 go_upto_if 6 with fail
 generalize ht:(!MD.toList.isEmpty)=t;rw[(CZ MD).1] at ht
 go_cut [6] (λs wc=>iP w1 B' b (acc++md) wc)
 case first =>
  by_cases hm:MD.data.toList=[]
  ·rw[kS hm] at ht
   obtain rfl:t=false:=ht.symm
   have aiy:md=[]:=by rw[HMD.out,bq hm]
   subst aiy;clear hm;go_wp2
   go_meet
   rw[List.append_nil];exact iP.start HB1.out
  ·rw[fu hm] at ht
   obtain rfl:t=true:=ht.symm;have TJ:Hid (md=MD.data.toList++[46]):=ay (by rw[HMD.out,aP hm]);have hml:=congrArg List.length TJ.out;simp only[bQ,aS,dN,iF] at hml
   have ajX:MD.size+1<=md.length:=by omega
   clear hm hml;go_wp2_with (go_at_call 123;refine(yR MD ⟨#[46]⟩ B' b acc w1 HB1.out hB1 (by show acc.length+MD.size+1<=_;omega)).mono ?_;rintro r w2 h2;obtain rfl:=h2.eq)
   go_meet
   rw[TJ.out];exact(iP.start HB1.out).write h2
 case rest =>
  obtain⟨wo,rfl⟩:∃ wo:World,wo=wc:=⟨_,rfl⟩
  have hzo:=hcut.lT.size;clear y0 y1 y2 y3 y4 y5 y6 y7 yt ht;obtain⟨y0,y1,y2,y3,y4,y5,y6,y7⟩:=aL (hcut.box HB1.out HN.out (by decide) (by decide))
  have yt:wo.cell? ⟨w.heap.size,0,none⟩=some (.pointer (some ⟨b,0,none⟩)):=by rw[bg (hcut.box HB1.out HT.out (by decide) (by decide))];rfl
  go_upto_region 4 with (go_at_call 123;refine(yR NM ⟨#[40]⟩ B' b (acc++md) wo hcut.mH (by omega) (by show (acc++md).length+NM.size+1<=_;rw[bQ];omega)).mono ?_;rintro r w2 h2;obtain rfl:=h2.eq)
  have s2:=hcut.write h2;have hz2:=s2.lT.size;clear y0 y1 y2 y3 y4 y5 y6 y7 yt h2 hcut;have T2:=s2.box HB1.out HT.out (by decide) (by decide);obtain⟨y0,y1,y2,y3,y4,y5,y6,y7⟩:=aL (s2.box HB1.out HN.out (by decide) (by decide))
  have yt:w2.cell? ⟨w.heap.size,0,none⟩=some (.pointer (some ⟨b,0,none⟩)):=by rw[bg T2];rfl
  have HL:=ay (abJ 256 #[.pointer (some ⟨w.heap.size,0,none⟩)] (enters_of Tryz.func256 (by kernel_rfl) rfl) ks B B' b ae ce (acc++md++(NM.data.toList++[40])) w2 (λx hx=>XC x (HK.out x hx) B' b w.heap.size _ w2 s2.mH T2 (by omega)) (λh0=>by
   obtain⟨kb,off,q1,q2,q3,q4⟩:=HH.out h0;have hb2:=(zn.trans s2.lT).mono nS;refine⟨kb,off,q1,q2,zI q3 hb2.size,λi hi=>?_⟩;obtain⟨NZ,wn',N7,M0,M4,q5,q6⟩:=q4 i hi
   exact⟨NZ,wn',N7,M0,M4,q5.frame (bA.uD hb2 λb hb=>hb),λj u hu=>(hb2.cell (p:=⟨kb,off+i * 8+j,none⟩) q2).trans (q6 j u hu)⟩) nS s2.mH (by omega) (by simp only[bQ,aS,dN,iF];omega) hkl)
  go_upto_region 5 with (go_at_call 255;refine HL.out.mono ?_;rintro r w3 h3;obtain rfl:=h3.eq)
  have s3:=s2.write h3;have hz3:=s3.lT.size;clear y0 y1 y2 y3 y4 y5 y6 y7 yt h3 s2 HL T2
  have yt:w3.cell? ⟨w.heap.size,0,none⟩=some (.pointer (some ⟨b,0,none⟩)):=by rw[bg (s3.box HB1.out HT.out (by decide) (by decide))];rfl
  go_wp2_with (go_at_call 123;refine(dV ⟨#[41]⟩ B' b _ w3 s3.mH (by omega) (by show List.length _+1<=_;simp only[bQ,aS,dN,iF];omega)).mono ?_;rintro r w4 h4;obtain rfl:=h4.eq)
  go_end0
  have:=bW.from hal hB (s3.write h4)
  rw[HO.out,<- HMD.out]
  simpa [om] using this
theorem ahd (h1:7<=op)(h2:op<=20):(op == 1)=false/\(op == 2)=false/\(op == 3)=false/\(op == 4)=false/\(op == 5)=false/\(op == 6)=false/\(op == 21)=false/\(op == 22)=false/\(op == 23)=false/\(op == 24)=false:=by
 refine⟨?_,?_,?_,?_,?_,?_,?_,?_,?_,?_⟩<;>exact Fa.2 (by omega)
theorem XE (h1:7<=op)(h2:op<=20)(nm md:aH)(num:Int)(yes:Bool)(ks:List (Int × aH)):pE op nm md num yes ks=tC (xV op) (ks.getD 0 (0,[]))++[32]++vk op++[32]++tC (BH op) (ks.getD 1 (0,[])):=by
 have e1:∀ k:Int,(k<=6\/21<=k)->¬ op=k:=λk hk q=>by omega
 unfold pE;rw[aP (e1 1 (by omega)),aP (e1 2 (by omega)),aP (e1 3 (by omega)),aP (e1 4 (by omega)),aP (e1 5 (by omega)),aP (e1 6 (by omega)),aP (e1 21 (by omega)),aP (e1 22 (by omega)),aP (e1 23 (by omega)),aP (e1 24 (by omega))]
structure En (e:PZ) (B B' b:Nat) (am:Option Addr) (wn cm:Nat) (ae:Option Addr) (ce:Nat) (acc:aH) (w:World):Prop where
 aA:lS B w ae e.aA
 does:∀ x∈e.aA,Da x
 nS:B<=B'
 mH:kW B' b acc w 151
 hB:B'<=w.heap.size
 len:acc.length+e.text.length<=1099511627776
 num:ow (λk=>k<B) w e.num (.slice am wn cm)
 big:e.num.natAbs<10 ^ 60
 few:e.aA.length<=65536
theorem TK (E:En e B B' b am wn cm ae ce acc w)(h1:1<=e.op)(h4:e.op<=4) :
  Calls Tryz.prog 124 #[.pointer (some ⟨b,0,none⟩),.agg #[.int .i64 e.op,.string ⟨e.name.toArray⟩,.string ⟨e.module.toArray⟩,.bool (decide (e.num<0)),.slice am wn cm,.bool e.yes,.slice ae e.aA.length ce,.int .i64 e.at_]] w (bW B' b (acc++e.text) w):=by
 have hal:=aB w (.cells (aT e.op ⟨e.name.toArray⟩ ⟨e.module.toArray⟩ (decide (e.num<0)) (.slice am wn cm) e.yes (.slice ae e.aA.length ce) e.at_) 64);have hN:=aZ w (.cells (aT e.op ⟨e.name.toArray⟩ ⟨e.module.toArray⟩ (decide (e.num<0)) (.slice am wn cm) e.yes (.slice ae e.aA.length ce) e.at_) 64);have hb1:=E.mH.nE hal;have hB:=E.hB;have hln:=E.len;have HST:=ay (λW (hW:Below w.heap.size w W)=>Qa (λk=>k<B) am wn cm e.num W (XA.frame E.num (bA.of hW)) E.big);have htd:=e.qH;clear E;generalize e.text=out at *;obtain⟨TX,hTX,eT⟩:=jV (kr e.num);rw[show kr e.num=TX.data.toList from hTX.symm] at HST
 have HST:Hid (∀ W,Below w.heap.size w W->Calls Tryz.prog 66 #[.agg #[.bool (decide (e.num<0)),.slice am wn cm]] W λr w'=>r=.returned (.string TX)/\Below W.heap.size W w'):=ay λW hW=>(HST.out W hW).mono λr w' q=>⟨by rw[q.1],q.2⟩
 have Rw:=ay hTX;have XF:=ay htd;clear hTX eT htd;generalize hop:e.op=op at *;have HB1:=ay hb1;have HN:=ay hN;clear hb1 hN
 have:op=1\/op=2\/op=3\/op=4:=by omega
 have key:∀ (S:ByteArray) (W:World),out=S.data.toList->Below w.heap.size w W->kW B' b acc W 151->Calls Tryz.prog 123 #[.pointer (some ⟨b,0,none⟩),.slice (some ⟨W.heap.size,0,none⟩) 1 1] (W.alloc (.cells #[.string S] 9)) λr w'=>r=.returned (.tuple #[])/\bW B' b (acc++out) w (.returned (.tuple #[])) w':=λS W hS hW hb =>
  (dV S B' b acc W hb (iY hB hW.size) (by rw[<- aS,<- hS];exact hln)).mono λr w' q=>⟨q.1,rfl,by rw[hS];exact q.2.1,(hW.mono hB).trans q.2.2.1,(sG hW).trans q.2.2.2⟩
 have HK:=ay key;clear key hop hln h1 h4
 rcases this with rfl|rfl|rfl|rfl
 ·have HO:Hid (out=TX.data.toList):=ay (by rw[XF.out];exact Rw.out.symm)
  go_enter Tryz.func124,Tryz.ntmps124
  go_upto_region 1 with fail
  change Code.wp _ _ _ _ (w.alloc (.cells (aT 1 ⟨e.name.toArray⟩ ⟨e.module.toArray⟩ (decide (e.num<0)) (.slice am wn cm) e.yes (.slice ae e.aA.length ce) e.at_) 64));generalize w.alloc _=w1 at hal HN HB1 |-;obtain⟨y0,y1,y2,y3,y4,y5,y6,y7⟩:=aL HN.out;go_wp2_with (first|(go_at_call 66;refine(HST.out _ hal).mono ?_;rintro r w2 ⟨rfl,hb2⟩)|(go_at_call 123;refine(HK.out TX w2 HO.out (hal.trans (hb2.mono hal.size)) (HB1.out.nE hb2)).mono ?_;rintro r w3 ⟨rfl,h3⟩))
  go_end0
  exact h3
 ·cases hy:e.yes with
  | true =>
   have HO:Hid (out=(ByteArray.mk #[116,114,117,101]).data.toList):=ay (by rw[XF.out,hy];rfl);rw[hy] at HN HB1 hal;clear hy;go_enter Tryz.func124,Tryz.ntmps124
   go_upto_region 1 with fail
   change Code.wp _ _ _ _ (w.alloc (.cells (aT 2 ⟨e.name.toArray⟩ ⟨e.module.toArray⟩ (decide (e.num<0)) (.slice am wn cm) true (.slice ae e.aA.length ce) e.at_) 64));generalize w.alloc _=w1 at hal HN HB1 |-;obtain⟨y0,y1,y2,y3,y4,y5,y6,y7⟩:=aL HN.out;go_wp2_with (go_at_call 123;refine(HK.out _ w1 HO.out hal HB1.out).mono ?_;rintro r w3 ⟨rfl,h3⟩)
   go_end0
   exact h3
  | false =>
   have HO:Hid (out=(ByteArray.mk #[102,97,108,115,101]).data.toList):=ay (by rw[XF.out,hy];rfl);rw[hy] at HN HB1 hal;clear hy;go_enter Tryz.func124,Tryz.ntmps124
   go_upto_region 1 with fail
   change Code.wp _ _ _ _ (w.alloc (.cells (aT 2 ⟨e.name.toArray⟩ ⟨e.module.toArray⟩ (decide (e.num<0)) (.slice am wn cm) false (.slice ae e.aA.length ce) e.at_) 64));generalize w.alloc _=w1 at hal HN HB1 |-;obtain⟨y0,y1,y2,y3,y4,y5,y6,y7⟩:=aL HN.out;go_wp2_with (go_at_call 123;refine(HK.out _ w1 HO.out hal HB1.out).mono ?_;rintro r w3 ⟨rfl,h3⟩)
   go_end0
   exact h3
 ·have HO:Hid (out=(ByteArray.mk e.name.toArray).data.toList):=ay (by rw[XF.out];rfl)
  go_enter Tryz.func124,Tryz.ntmps124
  go_upto_region 1 with fail
  change Code.wp _ _ _ _ (w.alloc (.cells (aT 3 ⟨e.name.toArray⟩ ⟨e.module.toArray⟩ (decide (e.num<0)) (.slice am wn cm) e.yes (.slice ae e.aA.length ce) e.at_) 64));generalize w.alloc _=w1 at hal HN HB1 |-;obtain⟨y0,y1,y2,y3,y4,y5,y6,y7⟩:=aL HN.out;go_wp2_with (go_at_call 123;refine(HK.out _ w1 HO.out hal HB1.out).mono ?_;rintro r w3 ⟨rfl,h3⟩)
  go_end0
  exact h3
 ·have HO:Hid (out=(ByteArray.mk #[114,101,115]).data.toList):=ay (by rw[XF.out];rfl)
  go_enter Tryz.func124,Tryz.ntmps124
  go_upto_region 1 with fail
  change Code.wp _ _ _ _ (w.alloc (.cells (aT 4 ⟨e.name.toArray⟩ ⟨e.module.toArray⟩ (decide (e.num<0)) (.slice am wn cm) e.yes (.slice ae e.aA.length ce) e.at_) 64));generalize w.alloc _=w1 at hal HN HB1 |-;obtain⟨y0,y1,y2,y3,y4,y5,y6,y7⟩:=aL HN.out;go_wp2_with (go_at_call 123;refine(HK.out _ w1 HO.out hal HB1.out).mono ?_;rintro r w3 ⟨rfl,h3⟩)
  go_end0
  exact h3
theorem XG (E:En e B B' b am wn cm ae ce acc w)(hop:e.op=5\/e.op=6)(hkn:e.aA.length=1) :
  Calls Tryz.prog 124 #[.pointer (some ⟨b,0,none⟩),.agg #[.int .i64 e.op,.string ⟨e.name.toArray⟩,.string ⟨e.module.toArray⟩,.bool (decide (e.num<0)),.slice am wn cm,.bool e.yes,.slice ae e.aA.length ce,.int .i64 e.at_]] w (bW B' b (acc++e.text) w):=by
 have hal:=aB w (.cells (aT e.op ⟨e.name.toArray⟩ ⟨e.module.toArray⟩ (decide (e.num<0)) (.slice am wn cm) e.yes (.slice ae e.aA.length ce) e.at_) 64);have hN:=aZ w (.cells (aT e.op ⟨e.name.toArray⟩ ⟨e.module.toArray⟩ (decide (e.num<0)) (.slice am wn cm) e.yes (.slice ae e.aA.length ce) e.at_) 64);have hb1:=E.mH.nE hal;have hB:=E.hB;have nS:=E.nS;have hln:=E.len;have HD:=ay E.does;have HK:=ay E.aA;have zn:=hal.mono hB;have Mv:=E.few;have htd:=e.qH
 have hgt:∀ i,(h:i<e.aA.length)->(je e.aA).getD i (0,[])=(e.aA[i].op,e.aA[i].text):=λi h=>nA h
 clear E;have h0:=hgt 0 (by omega);have HD0:=ay (HD.out _ (oQ (by omega:0<e.aA.length)));have Vs:=ay (λW hW=>HK.out.at (W:=W) hW (by omega:0<e.aA.length))
 have ahe:e.op=5->e.text=([45]:aH)++tC 9 (e.aA[0].op,e.aA[0].text):=λq=>by rw[htd,q,<- h0];rfl
 have ahf:e.op=6->e.text=([110,111,116,32]:aH)++tC 4 (e.aA[0].op,e.aA[0].text):=λq=>by rw[htd,q,<- h0];rfl
 have H5:=ay ahe;have H6:=ay ahf;clear htd ahe ahf hgt h0 HD HK;generalize e.aA[0]=x at *;generalize e.text=out at *
 have qF:(0:Int)<(e.aA.length:Int):=by omega
 have ahc:0<e.aA.length:=by omega
 generalize hop':e.op=op at *;generalize e.aA.length=nk at *;have HB1:=ay hb1;have HN:=ay hN;clear hb1 hN hop' hkn
 rcases hop with rfl|rfl
 ·have HO:=ay (H5.out rfl)
  clear H5 H6
  have hl2:acc.length+1+(tC 9 (x.op,x.text)).length<=1099511627776:=by
   have:=congrArg List.length HO.out;simp only[bQ,dN,iF] at this;omega
  clear hln;go_enter Tryz.func124,Tryz.ntmps124
  go_upto_region 1 with fail
  change Code.wp _ _ _ _ (w.alloc (.cells (aT 5 ⟨e.name.toArray⟩ ⟨e.module.toArray⟩ (decide (e.num<0)) (.slice am wn cm) e.yes (.slice ae nk ce) e.at_) 64));generalize w.alloc _=w1 at hal HN HB1 zn |-;have hB1:=iY hB hal.size;obtain⟨y0,y1,y2,y3,y4,y5,y6,y7⟩:=aL HN.out
  go_upto_region 18 with (go_at_call 123;refine(dV ⟨#[45]⟩ B' b acc w1 HB1.out hB1 (by show acc.length+1<=_;omega)).mono ?_;rintro r w2 h2;obtain rfl:=h2.eq)
  have s2:=(iP.start HB1.out).write h2;have hz2:=s2.lT.size;clear y0 y1 y2 y3 y4 y5 y6 y7 h2;obtain⟨-,-,-,-,-,-,y6,-⟩:=aL (s2.box HB1.out HN.out (by decide) (by decide));obtain⟨kb,off,rC,rD,rE,N8,ck1,rfl,hkB,hE,x0,x1,x2,x3,x4,x5,x6,x7⟩:=Vs.out w2 ((zn.trans s2.lT).mono nS);simp only[Nat.zero_mul,qp] at x0 x1 x2 x3 x4 x5 x6 x7;have HC:=ay (HD0.out 9 B B' b rC rD rE N8 ck1 _ w2 hE nS s2.mH (by omega) (by show (acc++([45]:aH)).length+_<=_;simp only[bQ,dN,iF];omega));have HS:=ay s2;clear hE Vs HD0 s2;go_wp2_with (go_at_call 201;refine HC.out.mono ?_;rintro r w3 h3;obtain rfl:=h3.eq)
  go_end0
  have:=bW.from hal hB (HS.out.write h3)
  rw[HO.out]
  simpa [om] using this
 ·have HO:=ay (H6.out rfl)
  clear H5 H6
  have hl2:acc.length+4+(tC 4 (x.op,x.text)).length<=1099511627776:=by
   have:=congrArg List.length HO.out;simp only[bQ,dN,iF] at this;omega
  clear hln;go_enter Tryz.func124,Tryz.ntmps124
  go_upto_region 1 with fail
  change Code.wp _ _ _ _ (w.alloc (.cells (aT 6 ⟨e.name.toArray⟩ ⟨e.module.toArray⟩ (decide (e.num<0)) (.slice am wn cm) e.yes (.slice ae nk ce) e.at_) 64));generalize w.alloc _=w1 at hal HN HB1 zn |-;have hB1:=iY hB hal.size;obtain⟨y0,y1,y2,y3,y4,y5,y6,y7⟩:=aL HN.out
  go_upto_region 21 with (go_at_call 123;refine(dV ⟨#[110,111,116,32]⟩ B' b acc w1 HB1.out hB1 (by show acc.length+4<=_;omega)).mono ?_;rintro r w2 h2;obtain rfl:=h2.eq)
  have s2:=(iP.start HB1.out).write h2;have hz2:=s2.lT.size;clear y0 y1 y2 y3 y4 y5 y6 y7 h2;obtain⟨-,-,-,-,-,-,y6,-⟩:=aL (s2.box HB1.out HN.out (by decide) (by decide));obtain⟨kb,off,rC,rD,rE,N8,ck1,rfl,hkB,hE,x0,x1,x2,x3,x4,x5,x6,x7⟩:=Vs.out w2 ((zn.trans s2.lT).mono nS);simp only[Nat.zero_mul,qp] at x0 x1 x2 x3 x4 x5 x6 x7;have HC:=ay (HD0.out 4 B B' b rC rD rE N8 ck1 _ w2 hE nS s2.mH (by omega) (by show (acc++([110,111,116,32]:aH)).length+_<=_;simp only[bQ,dN,iF];omega));have HS:=ay s2;clear hE Vs HD0 s2;go_wp2_with (go_at_call 201;refine HC.out.mono ?_;rintro r w3 h3;obtain rfl:=h3.eq)
  go_end0
  have:=bW.from hal hB (HS.out.write h3)
  rw[HO.out]
  simpa [om] using this
theorem XH (E:En e B B' b am wn cm ae ce acc w)(hop:e.op=21)(hkn:e.aA.length=3) :
  Calls Tryz.prog 124 #[.pointer (some ⟨b,0,none⟩),.agg #[.int .i64 e.op,.string ⟨e.name.toArray⟩,.string ⟨e.module.toArray⟩,.bool (decide (e.num<0)),.slice am wn cm,.bool e.yes,.slice ae e.aA.length ce,.int .i64 e.at_]] w (bW B' b (acc++e.text) w):=by
 have hal:=aB w (.cells (aT e.op ⟨e.name.toArray⟩ ⟨e.module.toArray⟩ (decide (e.num<0)) (.slice am wn cm) e.yes (.slice ae e.aA.length ce) e.at_) 64);have hN:=aZ w (.cells (aT e.op ⟨e.name.toArray⟩ ⟨e.module.toArray⟩ (decide (e.num<0)) (.slice am wn cm) e.yes (.slice ae e.aA.length ce) e.at_) 64);have hb1:=E.mH.nE hal;have hB:=E.hB;have nS:=E.nS;have hln:=E.len;have HD:=ay E.does;have HK:=ay E.aA;have zn:=hal.mono hB;have Mv:=E.few;have htd:=e.qH
 have hgt:∀ i,(h:i<e.aA.length)->(je e.aA).getD i (0,[])=(e.aA[i].op,e.aA[i].text):=λi h=>nA h
 clear E
 have hks:∃ l,e.aA=l/\l.length=3:=⟨_,rfl,hkn⟩
 obtain⟨l,hl,hll⟩:=hks
 have htx:e.text=dG [⟨#[105,102,32]⟩,⟨#[32,116,104,101,110,32]⟩,⟨#[32,101,108,115,101,32]⟩] e.aA:=by
  rw[htd,hop,hl]
  match l,hll with
  | [a,b,c],_=>simp[pE,dG,je]
 have Rw:=ay htx
 have hl2:acc.length+(dG [⟨#[105,102,32]⟩,⟨#[32,116,104,101,110,32]⟩,⟨#[32,101,108,115,101,32]⟩] e.aA).length<=1099511627776:=by rw[<- htx];exact hln
 clear htd hgt hl hll htx hln;generalize e.text=out at *
 have Eo:([⟨#[105,102,32]⟩,⟨#[32,116,104,101,110,32]⟩,⟨#[32,101,108,115,101,32]⟩]:List ByteArray).length<=e.aA.length:=by rw[hkn];decide
 have hP:=λ(acc':aH) (W:World) (sb:Nat) (hW:Below B' w W) (hb:kW B' b acc' W 151) (hs:W.heap[sb]?=some (.cells #[.string ⟨#[105,102,32]⟩,.string ⟨#[32,116,104,101,110,32]⟩,.string ⟨#[32,101,108,115,101,32]⟩] 9 (0,0))) (abL:acc'.length+(dG [⟨#[105,102,32]⟩,⟨#[32,116,104,101,110,32]⟩,⟨#[32,101,108,115,101,32]⟩] e.aA).length<=1099511627776)=>Dc 21 ⟨e.name.toArray⟩ ⟨e.module.toArray⟩ (decide (e.num<0)) am wn cm e.yes ae ce e.at_ e.aA [⟨#[105,102,32]⟩,⟨#[32,116,104,101,110,32]⟩,⟨#[32,101,108,115,101,32]⟩] Eo (by decide) HD.out B B' b sb 3 (0,0) acc' W (λh0=>by
  obtain⟨kb,off,q1,q2,q3,q4⟩:=HK.out h0;have hb2:=hW.mono nS;refine⟨kb,off,q1,q2,zI q3 hb2.size,λi hi=>?_⟩;obtain⟨NZ,wn',N7,M0,M4,q5,q6⟩:=q4 i hi
  exact⟨NZ,wn',N7,M0,M4,q5.frame (bA.uD hb2 λb hb=>hb),λj u hu=>(hb2.cell (p:=⟨kb,off+i * 8+j,none⟩) q2).trans (q6 j u hu)⟩) nS hb hs (iY hB hW.size) abL
 have HP:=ay hP;clear hP HD HK Eo hkn;generalize dG [⟨#[105,102,32]⟩,⟨#[32,116,104,101,110,32]⟩,⟨#[32,101,108,115,101,32]⟩] e.aA=ahg at *;generalize hop':e.op=op at *;subst hop;have HB1:=ay hb1;have HN:=ay hN;clear hb1 hN hop';go_enter Tryz.func124,Tryz.ntmps124
 go_upto_region 1 with fail
 change Code.wp _ _ _ _ (w.alloc (.cells (aT 21 ⟨e.name.toArray⟩ ⟨e.module.toArray⟩ (decide (e.num<0)) (.slice am wn cm) e.yes (.slice ae e.aA.length ce) e.at_) 64));generalize w.alloc _=w1 at hal HN HB1 zn |-;have hB1:=iY hB hal.size;obtain⟨y0,y1,y2,y3,y4,y5,y6,y7⟩:=aL HN.out;have dD:=aB w1 (.cells #[.string ⟨#[105,102,32]⟩,.string ⟨#[32,116,104,101,110,32]⟩,.string ⟨#[32,101,108,115,101,32]⟩] 9);have HP1:=ay (HP.out acc (w1.alloc (.cells #[.string ⟨#[105,102,32]⟩,.string ⟨#[32,116,104,101,110,32]⟩,.string ⟨#[32,101,108,115,101,32]⟩] 9)) w1.heap.size (zn.alloc hB1 _) (HB1.out.nE dD) (aZ w1 _) hl2);go_wp2_with (go_at_call 202;refine HP1.out.mono ?_;rintro r w3 h3;obtain rfl:=h3.eq)
 go_end0
 rw[Rw.out]
 exact bW.from hal hB (((iP.start HB1.out).below dD hB1).write h3)
theorem TL (E:En e B B' b am wn cm ae ce acc w)(hop:e.op=23)(hkn:e.aA.length=2) :
  Calls Tryz.prog 124 #[.pointer (some ⟨b,0,none⟩),.agg #[.int .i64 e.op,.string ⟨e.name.toArray⟩,.string ⟨e.module.toArray⟩,.bool (decide (e.num<0)),.slice am wn cm,.bool e.yes,.slice ae e.aA.length ce,.int .i64 e.at_]] w (bW B' b (acc++e.text) w):=by
 have hal:=aB w (.cells (aT e.op ⟨e.name.toArray⟩ ⟨e.module.toArray⟩ (decide (e.num<0)) (.slice am wn cm) e.yes (.slice ae e.aA.length ce) e.at_) 64);have hN:=aZ w (.cells (aT e.op ⟨e.name.toArray⟩ ⟨e.module.toArray⟩ (decide (e.num<0)) (.slice am wn cm) e.yes (.slice ae e.aA.length ce) e.at_) 64);have hb1:=E.mH.nE hal;have hB:=E.hB;have nS:=E.nS;have hln:=E.len;have HD:=ay E.does;have HK:=ay E.aA;have zn:=hal.mono hB;have Mv:=E.few;have htd:=e.qH
 have hgt:∀ i,(h:i<e.aA.length)->(je e.aA).getD i (0,[])=(e.aA[i].op,e.aA[i].text):=λi h=>nA h
 clear E
 have hks:∃ l,e.aA=l/\l.length=2:=⟨_,rfl,hkn⟩
 obtain⟨l,hl,hll⟩:=hks
 have htx:e.text=dG [⟨#[97,115,115,101,114,116,32]⟩,⟨#[32,105,110,32]⟩] e.aA:=by
  rw[htd,hop,hl]
  match l,hll with
  | [a,b],_=>simp[pE,dG,je]
 have Rw:=ay htx
 have hl2:acc.length+(dG [⟨#[97,115,115,101,114,116,32]⟩,⟨#[32,105,110,32]⟩] e.aA).length<=1099511627776:=by rw[<- htx];exact hln
 clear htd hgt hl hll htx hln;generalize e.text=out at *
 have Eo:([⟨#[97,115,115,101,114,116,32]⟩,⟨#[32,105,110,32]⟩]:List ByteArray).length<=e.aA.length:=by rw[hkn];decide
 have hP:=λ(acc':aH) (W:World) (sb:Nat) (hW:Below B' w W) (hb:kW B' b acc' W 151) (hs:W.heap[sb]?=some (.cells #[.string ⟨#[97,115,115,101,114,116,32]⟩,.string ⟨#[32,105,110,32]⟩] 9 (0,0))) (abL:acc'.length+(dG [⟨#[97,115,115,101,114,116,32]⟩,⟨#[32,105,110,32]⟩] e.aA).length<=1099511627776)=>Dc 23 ⟨e.name.toArray⟩ ⟨e.module.toArray⟩ (decide (e.num<0)) am wn cm e.yes ae ce e.at_ e.aA [⟨#[97,115,115,101,114,116,32]⟩,⟨#[32,105,110,32]⟩] Eo (by decide) HD.out B B' b sb 2 (0,0) acc' W (λh0=>by
  obtain⟨kb,off,q1,q2,q3,q4⟩:=HK.out h0;have hb2:=hW.mono nS;refine⟨kb,off,q1,q2,zI q3 hb2.size,λi hi=>?_⟩;obtain⟨NZ,wn',N7,M0,M4,q5,q6⟩:=q4 i hi
  exact⟨NZ,wn',N7,M0,M4,q5.frame (bA.uD hb2 λb hb=>hb),λj u hu=>(hb2.cell (p:=⟨kb,off+i * 8+j,none⟩) q2).trans (q6 j u hu)⟩) nS hb hs (iY hB hW.size) abL
 have HP:=ay hP;clear hP HD HK Eo hkn;generalize dG [⟨#[97,115,115,101,114,116,32]⟩,⟨#[32,105,110,32]⟩] e.aA=ahg at *;generalize hop':e.op=op at *;subst hop;have HB1:=ay hb1;have HN:=ay hN;clear hb1 hN hop';go_enter Tryz.func124,Tryz.ntmps124
 go_upto_region 1 with fail
 change Code.wp _ _ _ _ (w.alloc (.cells (aT 23 ⟨e.name.toArray⟩ ⟨e.module.toArray⟩ (decide (e.num<0)) (.slice am wn cm) e.yes (.slice ae e.aA.length ce) e.at_) 64));generalize w.alloc _=w1 at hal HN HB1 zn |-;have hB1:=iY hB hal.size;obtain⟨y0,y1,y2,y3,y4,y5,y6,y7⟩:=aL HN.out;have dD:=aB w1 (.cells #[.string ⟨#[97,115,115,101,114,116,32]⟩,.string ⟨#[32,105,110,32]⟩] 9);have HP1:=ay (HP.out acc (w1.alloc (.cells #[.string ⟨#[97,115,115,101,114,116,32]⟩,.string ⟨#[32,105,110,32]⟩] 9)) w1.heap.size (zn.alloc hB1 _) (HB1.out.nE dD) (aZ w1 _) hl2);go_wp2_with (go_at_call 202;refine HP1.out.mono ?_;rintro r w3 h3;obtain rfl:=h3.eq)
 go_end0
 rw[Rw.out]
 exact bW.from hal hB (((iP.start HB1.out).below dD hB1).write h3)
theorem TM (E:En e B B' b am wn cm ae ce acc w)(hop:e.op=22)(hkn:e.aA.length=2)(hnl:e.name.length<=65536) :
  Calls Tryz.prog 124 #[.pointer (some ⟨b,0,none⟩),.agg #[.int .i64 e.op,.string ⟨e.name.toArray⟩,.string ⟨e.module.toArray⟩,.bool (decide (e.num<0)),.slice am wn cm,.bool e.yes,.slice ae e.aA.length ce,.int .i64 e.at_]] w (bW B' b (acc++e.text) w):=by
 have hal:=aB w (.cells (aT e.op ⟨e.name.toArray⟩ ⟨e.module.toArray⟩ (decide (e.num<0)) (.slice am wn cm) e.yes (.slice ae e.aA.length ce) e.at_) 64);have hN:=aZ w (.cells (aT e.op ⟨e.name.toArray⟩ ⟨e.module.toArray⟩ (decide (e.num<0)) (.slice am wn cm) e.yes (.slice ae e.aA.length ce) e.at_) 64);have hb1:=E.mH.nE hal;have hB:=E.hB;have nS:=E.nS;have hln:=E.len;have HD:=ay E.does;have HK:=ay E.aA;have zn:=hal.mono hB;have Mv:=E.few;have htd:=e.qH
 have hgt:∀ i,(h:i<e.aA.length)->(je e.aA).getD i (0,[])=(e.aA[i].op,e.aA[i].text):=λi h=>nA h
 clear E
 have hks:∃ l,e.aA=l/\l.length=2:=⟨_,rfl,hkn⟩
 obtain⟨l,hl,hll⟩:=hks
 have htx:e.text=([108,101,116,32]:aH)++e.name++dG [⟨#[32,61,32]⟩,⟨#[32,105,110,32]⟩] e.aA:=by
  rw[htd,hop,hl]
  match l,hll with
  | [a,b],_=>simp[pE,dG,je]
 have Rw:=ay htx
 have hl2:acc.length+4+e.name.length+(dG [⟨#[32,61,32]⟩,⟨#[32,105,110,32]⟩] e.aA).length<=1099511627776:=by
  rw[htx] at hln;simp only[bQ,dN,iF] at hln;omega
 clear htd hgt hl hll htx hln;generalize e.text=out at *
 have Eo:([⟨#[32,61,32]⟩,⟨#[32,105,110,32]⟩]:List ByteArray).length<=e.aA.length:=by rw[hkn];decide
 have hP:=λ(acc':aH) (W:World) (sb:Nat) (hW:Below B' w W) (hb:kW B' b acc' W 151) (hs:W.heap[sb]?=some (.cells #[.string ⟨#[32,61,32]⟩,.string ⟨#[32,105,110,32]⟩] 9 (0,0))) (abL:acc'.length+(dG [⟨#[32,61,32]⟩,⟨#[32,105,110,32]⟩] e.aA).length<=1099511627776)=>Dc 22 ⟨e.name.toArray⟩ ⟨e.module.toArray⟩ (decide (e.num<0)) am wn cm e.yes ae ce e.at_ e.aA [⟨#[32,61,32]⟩,⟨#[32,105,110,32]⟩] Eo (by decide) HD.out B B' b sb 2 (0,0) acc' W (λh0=>by
  obtain⟨kb,off,q1,q2,q3,q4⟩:=HK.out h0;have hb2:=hW.mono nS;refine⟨kb,off,q1,q2,zI q3 hb2.size,λi hi=>?_⟩;obtain⟨NZ,wn',N7,M0,M4,q5,q6⟩:=q4 i hi
  exact⟨NZ,wn',N7,M0,M4,q5.frame (bA.uD hb2 λb hb=>hb),λj u hu=>(hb2.cell (p:=⟨kb,off+i * 8+j,none⟩) q2).trans (q6 j u hu)⟩) nS hb hs (iY hB hW.size) abL
 have HP:=ay hP;clear hP HD HK Eo hkn;generalize dG [⟨#[32,61,32]⟩,⟨#[32,105,110,32]⟩] e.aA=ahg at *;generalize hop':e.op=op at *;subst hop;have HB1:=ay hb1;have HN:=ay hN;clear hb1 hN hop';go_enter Tryz.func124,Tryz.ntmps124
 go_upto_region 1 with fail
 change Code.wp _ _ _ _ (w.alloc (.cells (aT 22 ⟨e.name.toArray⟩ ⟨e.module.toArray⟩ (decide (e.num<0)) (.slice am wn cm) e.yes (.slice ae e.aA.length ce) e.at_) 64));generalize w.alloc _=w1 at hal HN HB1 zn |-;have hB1:=iY hB hal.size;obtain⟨y0,y1,y2,y3,y4,y5,y6,y7⟩:=aL HN.out
 go_upto_region 26 with (go_at_call 123;refine(yR ⟨#[108,101,116,32]⟩ ⟨e.name.toArray⟩ B' b acc w1 HB1.out hB1 (by show acc.length+4+e.name.toArray.size<=_;simp;omega)).mono ?_;rintro r w2 h2;obtain rfl:=h2.eq)
 have s2:=(iP.start HB1.out).write h2;have hz2:=s2.lT.size;clear y0 y1 y2 y3 y4 y5 y6 y7 h2;obtain⟨y0,y1,y2,y3,y4,y5,y6,y7⟩:=aL (s2.box HB1.out HN.out (by decide) (by decide));have dD:=aB w2 (.cells #[.string ⟨#[32,61,32]⟩,.string ⟨#[32,105,110,32]⟩] 9);have s3:=s2.below dD hB1;have HP1:=ay (HP.out _ (w2.alloc (.cells #[.string ⟨#[32,61,32]⟩,.string ⟨#[32,105,110,32]⟩] 9)) w2.heap.size (zn.trans s3.lT) s3.mH (aZ w2 _) (by show (acc++(([108,101,116,32]:aH)++e.name)).length+_<=_;simp only[bQ,dN,iF];omega));go_wp2_with (go_at_call 202;refine HP1.out.mono ?_;rintro r w3 h3;obtain rfl:=h3.eq)
 go_end0
 rw[Rw.out]
 have:=bW.from hal hB (s3.write h3)
 simpa [om] using this
theorem TN (E:En e B B' b am wn cm ae ce acc w)(hop:e.op=24)(hkn:e.aA.length<=8)(hnl:e.name.length<=65536)(hml:e.module.length<=65536) :
  Calls Tryz.prog 124 #[.pointer (some ⟨b,0,none⟩),.agg #[.int .i64 e.op,.string ⟨e.name.toArray⟩,.string ⟨e.module.toArray⟩,.bool (decide (e.num<0)),.slice am wn cm,.bool e.yes,.slice ae e.aA.length ce,.int .i64 e.at_]] w (bW B' b (acc++e.text) w):=by
 have hal:=aB w (.cells (aT e.op ⟨e.name.toArray⟩ ⟨e.module.toArray⟩ (decide (e.num<0)) (.slice am wn cm) e.yes (.slice ae e.aA.length ce) e.at_) 64);have hN:=aZ w (.cells (aT e.op ⟨e.name.toArray⟩ ⟨e.module.toArray⟩ (decide (e.num<0)) (.slice am wn cm) e.yes (.slice ae e.aA.length ce) e.at_) 64);have hb1:=E.mH.nE hal;have hB:=E.hB;have nS:=E.nS;have hln:=E.len;have HD:=ay E.does;have HK:=ay E.aA;have zn:=hal.mono hB;have Mv:=E.few;have htd:=e.qH
 have hgt:∀ i,(h:i<e.aA.length)->(je e.aA).getD i (0,[])=(e.aA[i].op,e.aA[i].text):=λi h=>nA h
 clear E
 have htx:e.text=(if (ByteArray.mk e.module.toArray).data.toList=[] then [] else (ByteArray.mk e.module.toArray).data.toList++[46])++(ByteArray.mk e.name.toArray).data.toList++[40]++bR (e.aA.map PZ.text)++[41]:=by
  rw[htd,hop,sD];simp only[pE,List.map_map]
  rfl
 have hC:=λ(W:World) (hW:Below B' w W) (hb:kW B' b acc W 151)=>abK e.op ⟨e.name.toArray⟩ ⟨e.module.toArray⟩ (decide (e.num<0)) am wn cm e.yes ae ce e.at_ e.aA HD.out B B' b acc W (by omega) (λh0=>by
  obtain⟨kb,off,q1,q2,q3,q4⟩:=HK.out h0;have hb2:=hW.mono nS;refine⟨kb,off,q1,q2,zI q3 hb2.size,λi hi=>?_⟩;obtain⟨NZ,wn',N7,M0,M4,q5,q6⟩:=q4 i hi
  exact⟨NZ,wn',N7,M0,M4,q5.frame (bA.uD hb2 λb hb=>hb),λj u hu=>(hb2.cell (p:=⟨kb,off+i * 8+j,none⟩) q2).trans (q6 j u hu)⟩) nS hb (iY hB hW.size) e.text htx hln
 have HC:=ay hC;clear hC htx htd hgt HD HK hln;generalize e.text=out at *;generalize hop':e.op=op at *;subst hop;have HB1:=ay hb1;have HN:=ay hN;clear hb1 hN hop';go_enter Tryz.func124,Tryz.ntmps124
 go_upto_region 1 with fail
 change Code.wp _ _ _ _ (w.alloc (.cells (aT 24 ⟨e.name.toArray⟩ ⟨e.module.toArray⟩ (decide (e.num<0)) (.slice am wn cm) e.yes (.slice ae e.aA.length ce) e.at_) 64));generalize w.alloc _=w1 at hal HN HB1 zn |-;have hB1:=iY hB hal.size;obtain⟨y0,y1,y2,y3,y4,y5,y6,y7⟩:=aL HN.out;have Gh:=ay (HC.out w1 zn HB1.out);go_wp2_with (go_at_call 203;refine Gh.out.mono ?_;rintro r w3 h3;obtain rfl:=h3.eq)
 go_end0
 exact bW.from hal hB ((iP.start HB1.out).write h3)
theorem XI (E:En e B B' b am wn cm ae ce acc w)(h7:7<=e.op)(h20:e.op<=20)(hkn:e.aA.length=2) :
  Calls Tryz.prog 124 #[.pointer (some ⟨b,0,none⟩),.agg #[.int .i64 e.op,.string ⟨e.name.toArray⟩,.string ⟨e.module.toArray⟩,.bool (decide (e.num<0)),.slice am wn cm,.bool e.yes,.slice ae e.aA.length ce,.int .i64 e.at_]] w (bW B' b (acc++e.text) w):=by
 have hal:=aB w (.cells (aT e.op ⟨e.name.toArray⟩ ⟨e.module.toArray⟩ (decide (e.num<0)) (.slice am wn cm) e.yes (.slice ae e.aA.length ce) e.at_) 64);have hN:=aZ w (.cells (aT e.op ⟨e.name.toArray⟩ ⟨e.module.toArray⟩ (decide (e.num<0)) (.slice am wn cm) e.yes (.slice ae e.aA.length ce) e.at_) 64);have hb1:=E.mH.nE hal;have hB:=E.hB;have nS:=E.nS;have hln:=E.len;have HD:=ay E.does;have HK:=ay E.aA;have zn:=hal.mono hB;have Mv:=E.few;have htd:=e.qH
 have hgt:∀ i,(h:i<e.aA.length)->(je e.aA).getD i (0,[])=(e.aA[i].op,e.aA[i].text):=λi h=>nA h
 clear E;have h0:=hgt 0 (by omega);have h1:=hgt 1 (by omega);have HD0:=ay (HD.out _ (oQ (by omega:0<e.aA.length)));have Vs:=ay (λW hW=>HK.out.at (W:=W) hW (by omega:0<e.aA.length));have HD1:=ay (HD.out _ (oQ (by omega:1<e.aA.length)));have HK1:=ay (λW hW=>HK.out.at (W:=W) hW (by omega:1<e.aA.length));rw[XE h7 h20,h0,h1] at htd;obtain⟨t1,t2,t3,t4,t5,t6,t21,t22,t23,t24⟩:=ahd h7 h20;have HT:=ay (λW=>Vp e.op h7 h20 W);have XF:=ay htd;clear hgt h0 h1 HD HK htd;generalize e.aA[0]=x at *;generalize e.aA[1]=z at *;generalize e.text=out at *
 have qF:(0:Int)<(e.aA.length:Int):=by omega
 have ahc:0<e.aA.length:=by omega
 have ajY:(1:Int)<(e.aA.length:Int):=by omega
 have ajZ:1<e.aA.length:=by omega
 generalize e.op=op at *;generalize e.aA.length=nk at *;generalize KV op=fa at HT;generalize xV op=fb at HT XF;generalize BH op=fc at HT XF;obtain⟨SG,hSG,eS⟩:=jV (vk op);rw[eS] at HT;rw[<- hSG] at XF
 have hl2:acc.length+(tC fb (x.op,x.text)).length+1+SG.size+1+(tC fc (z.op,z.text)).length<=1099511627776:=by
  have:=congrArg List.length XF.out;simp only[bQ,dN,iF,aS] at this;omega
 have HB1:=ay hb1;have HN:=ay hN;clear hb1 hN hkn hSG eS hln h7 h20;go_enter Tryz.func124,Tryz.ntmps124
 go_upto_region 1 with fail
 change Code.wp _ _ _ _ (w.alloc (.cells (aT op ⟨e.name.toArray⟩ ⟨e.module.toArray⟩ (decide (e.num<0)) (.slice am wn cm) e.yes (.slice ae nk ce) e.at_) 64));generalize w.alloc _=w1 at hal HN HB1 zn |-;have hB1:=iY hB hal.size;obtain⟨y0,y1,y2,y3,y4,y5,y6,y7⟩:=aL HN.out
 go_upto_region 2 with fail
 go_upto_region 3 with (go_at_call 204;refine(HT.out _).mono ?_;rintro r w2 ⟨rfl,hb2⟩)
 change Code.wp _ _ _ _ (w2.alloc (.cells #[.int .i64 fa,.int .i64 fb,.int .i64 fc,.string SG] 271));have s2:=(iP.start HB1.out).below hb2 hB1;have hF:=aZ w2 (.cells #[.int .i64 fa,.int .i64 fb,.int .i64 fc,.string SG] 271);have s3:=s2.below (aB w2 (.cells #[.int .i64 fa,.int .i64 fb,.int .i64 fc,.string SG] 271)) hB1;clear y0 y1 y2 y3 y4 y5 y6 y7;generalize w2.heap.size=fk at hF |-;generalize w2.alloc _=w3 at hF s3 |-;have hB3:=s3.lT.size;have s3d:=s3.drew;obtain⟨f0,f1,f2,f3⟩:=qU hF;obtain⟨-,-,-,-,-,-,y6,-⟩:=aL (s3.box HB1.out HN.out (by decide) (by decide));obtain⟨kb,off,rC,rD,rE,N8,ck1,rfl,hkB,hE,x0,x1,x2,x3,x4,x5,x6,x7⟩:=Vs.out w3 ((zn.trans s3.lT).mono nS);simp only[Nat.zero_mul,qp] at x0 x1 x2 x3 x4 x5 x6 x7;have HC:=ay (HD0.out fb B B' b rC rD rE N8 ck1 _ w3.drew (hE.frame (bA.of (bY _ _).drew)) nS s3d.mH (show B'<=w3.heap.size by omega) (by omega));have J4:=ay s3;have HF:=ay hF;clear hE Vs HD0 s3 s2 hF hb2 HT
 go_still_tail 7,(by kernel_rfl)
 change wpList _ _ _ _ _ w3.drew;clear y6 x0 x1 x2 x3 x4 x5 x6 x7 f0 f1 f2 f3
 go_upto_region 4 with (go_at_call 201;refine HC.out.mono ?_;rintro r w4 h4;obtain rfl:=h4.eq)
 have s4:=s3d.write h4;have hB4:=s4.lT.size;have F4:=s3d.mH.block h4.2.2.2 HF.out (by decide) (by decide);obtain⟨f0,f1,f2,f3⟩:=qU F4;clear h4 s3d HC
 go_upto_region 5 with (go_at_call 123;refine(yS ⟨#[32]⟩ SG ⟨#[32]⟩ B' b _ w4 s4.mH (by omega) (by show List.length _+1+SG.size+1<=_;rw[bQ];omega)).mono ?_;rintro r w5 h5;obtain rfl:=h5.eq)
 have s5:=s4.write h5;have hB5:=s5.lT.size;have F5:=s4.mH.block h5.2.2.2 F4 (by decide) (by decide);have s5d:=s5.drew;clear f0 f1 f2 f3 h5 s4 F4;obtain⟨f0,f1,f2,f3⟩:=qU F5;obtain⟨-,-,-,-,-,-,y6,-⟩:=aL (s5.box HB1.out HN.out (by decide) (by decide));obtain⟨kb1,off1,oK,oL,oM,ak2,ck2,hkk,aj0,hE,x0,x1,x2,x3,x4,x5,x6,x7⟩:=HK1.out w5 ((zn.trans s5.lT).mono nS);simp only[Option.some.injEq,Addr.mk.injEq,and_true] at hkk;obtain⟨rfl,rfl⟩:=hkk;simp only[Nat.one_mul] at x0 x1 x2 x3 x4 x5 x6 x7;have HC:=ay (HD1.out fc B B' b oK oL oM ak2 ck2 _ w5.drew (hE.frame (bA.of (bY _ _).drew)) nS s5d.mH (show B'<=w5.heap.size by omega) (by show List.length (_++(([32]:aH)++(SG.data.toList++[32])))+_<=_;simp only[bQ,aS,dN,iF];omega));have Qg:=ay s5d;clear hE HK1 HD1 s5 s5d F5;go_wp2
 go_still_tail 7,(by kernel_rfl)
 change wpList _ _ _ _ _ w5.drew;clear y6 x0 x1 x2 x3 x4 x5 x6 x7 f0 f1 f2 f3;go_wp2_with (go_at_call 201;refine HC.out.mono ?_;rintro r w6 h6;obtain rfl:=h6.eq)
 go_end0
 have:=bW.from hal hB (Qg.out.write h6)
 rw[XF.out]
 simpa [om] using this
theorem yT {fm:Bool}:∀ (n:Nat) (e:PZ),SizeOf.sizeOf e<n->e.right fm=true->e.fit->TI e
 | 0,_,h,_,_=>absurd h (by omega)
 | n+1,e,hs,hr,hf=>by
  have R:=PZ.MW hr;obtain⟨f1,f2,f3,f4,f5⟩:=PZ.ru hf
  have ih:∀ x∈e.aA,Da x:=λx hx=>adR x (yT n x (by have:=e.lQ x hx;omega) (R.aA x hx) (f5 x hx))
  intro B B' b am wn cm ae ce acc w h nS hbd hB hn
  have E:En e B B' b am wn cm ae ce acc w:=⟨h.abH,ih,nS,hbd,hB,hn,h.form.1,f3,f4⟩
  have F:(1<=e.op/\e.op<=4)\/((e.op=5\/e.op=6)/\e.aA.length=1)\/(7<=e.op/\e.op<=20/\e.aA.length=2)\/(e.op=21/\e.aA.length=3)\/(e.op=22/\e.aA.length=2)\/(e.op=23/\e.aA.length=2)\/(e.op=24/\e.aA.length<=8):=by
   have F:=R.form;generalize e.op=op at F |-;generalize e.aA.length=c at F |-
   cases F<;>omega
  rcases F with ⟨h1,h2⟩|⟨h1,h2⟩|⟨h1,h2,h3⟩|⟨h1,h2⟩|⟨h1,h2⟩|⟨h1,h2⟩|⟨h1,h2⟩
  ·exact TK E h1 h2
  ·exact XG E h1 h2
  ·exact XI E h1 h2 h3
  ·exact XH E h1 h2
  ·exact TM E h1 h2 f1
  ·exact TL E h1 h2
  ·exact TN E h1 h2 f1 f2
theorem BL (n:Nat):0<(iw n).length:=by
 unfold iw
 split
 ·simp
 ·rw[bQ];simp
theorem abM (n:Int):0<(kr n).length:=by
 rw[kr,bQ];have:=BL n.natAbs;omega
