/- Walks and plain laws: TdumpW, ShowE, ShowF, ShowG, ShowH. -/
import Derived.Test.YtknicmmigbhpcaaGreatDoorF18
import Derived.Deep.CutBlock
set_option maxHeartbeats 16000000
set_option maxRecDepth 100000
set_option linter.unusedVariables false
set_option linter.unusedSimpArgs false
namespace Go.Proofs.YtknicmmigbhpcaaGreatDoor
open Go.RowKit Go
def H8 (B' b:Nat)(acc:List UInt8)(w:World)(e:Ending)(w':World):Prop:=e=.returned (.tuple #[])∧jO B' b acc w'∧Below B' w w'∧Lib.OthersKept 5 (some b) w w'
def Vl (B B' b:Nat)(tv nv:Value)(toks:List Tok)(nodes:List Nd)(g:Nat):Prop:=∀ (n:Int) (s acc:List UInt8) (w:World),aP B w (.agg #[tv,nv]) toks nodes→B≤B'→jO B' b acc w→B'≤w.heap.size→rF toks nodes g n=some s→acc.length+s.length≤1099511627776 →
 Calls Tryz.prog 176 #[.agg #[tv,nv],.pointer (some ⟨b,0,none⟩),.int .i64 n] w (H8 B' b (acc++s) w)
theorem Vm (i:Nat)(h:i<100)(w:World):Calls Tryz.prog 238 #[.int .i64 i] w fun e w'=>e=.returned (.string ⟨(fK i).toArray⟩)∧w'=w:=by
 rw[← Ng];exact Tryz.strconv_Itoa_small i h w
theorem dn {w:World}{b:Nat}{x y:Value}(h:w.heap[b]?=some (.cells #[x,y] 89 (0,0))):w.cell? ⟨b,0,none⟩=some x∧w.cell? ⟨b,1,none⟩=some y:=by
 constructor<;>(rw[Lib.cell_of_heap h];rfl)
theorem Nt (B B' b:Nat)(tv nv:Value)(toks:List Tok)(nodes:List Nd)(k u:Nat)(ks:List Int)(acc:List UInt8)(w:World)(h:aP B w (.agg #[tv,nv]) toks nodes)(mP:B≤B')(hbd:jO B' b acc w)(hB:B'≤w.heap.size)
  (hn:nodes[k]?=some ⟨19,(u:Nat),ks⟩) (hu:u<toks.length) (hlen:acc.length+(mI toks[u]).length≤1099511627776) :
  Calls Tryz.prog 176 #[.agg #[tv,nv],.pointer (some ⟨b,0,none⟩),.int .i64 k] w (H8 B' b (acc++mI toks[u]) w):=by
 obtain⟨hi,hni⟩:=mR hn;obtain⟨bn,off,cap,kv,rfl,hbn,x0,x1,x2,hkv⟩:=h.node hi;obtain⟨b2,off2,cap2,rfl,hb2,t0,t1,t2,t3⟩:=h.tok hu;obtain⟨rO,rP,rfl,-,-⟩:=hkv.form;rw[hni] at x0 x1 x2;simp only at x0 x1 x2;generalize hkl:ks.length=kl at x2;generalize toks[u]=t at t0 t1 t2 t3 hlen;obtain⟨c,x,y,q⟩:=t;simp only[bY] at t0 t1 t2 t3;obtain⟨X,rfl,eX⟩:=je x;obtain⟨Y,rfl,eY⟩:=je y;rw[eX] at t1;rw[eY] at t2;have hal:=(Below.refl w.heap.size w).alloc (Nat.le_refl _) (.cells #[.slice (some ⟨b2,off2,none⟩) toks.length cap2,.slice (some ⟨bn,off,none⟩) nodes.length cap] 89);have bq:=hal.alloc (by simp) (.cells #[.int .i64 19,.int .i64 (u:Nat),.slice rO kl rP] 134);have kW:=bq.alloc (by simp;omega) (.cells #[.int .i64 c,.string X,.string Y,.int .i64 q] 136);have hb3:=((hbd.alloc (.cells #[.slice (some ⟨b2,off2,none⟩) toks.length cap2,.slice (some ⟨bn,off,none⟩) nodes.length cap] 89)).alloc (.cells #[.int .i64 19,.int .i64 (u:Nat),.slice rO kl rP] 134)).alloc (.cells #[.int .i64 c,.string X,.string Y,.int .i64 q] 136);have hk3:=(((Lib.OthersKept.refl 5 (some b) w).alloc (.cells #[.slice (some ⟨b2,off2,none⟩) toks.length cap2,.slice (some ⟨bn,off,none⟩) nodes.length cap] 89)).alloc (.cells #[.int .i64 19,.int .i64 (u:Nat),.slice rO kl rP] 134)).alloc (.cells #[.int .i64 c,.string X,.string Y,.int .i64 q] 136);have x0':=(hal.cell (p:=⟨bn,off+k * 3,none⟩) (by show bn<_;omega)).trans x0;have x1':=(hal.cell (p:=⟨bn,off+k * 3+1,none⟩) (by show bn<_;omega)).trans x1;have x2':=(hal.cell (p:=⟨bn,off+k * 3+2,none⟩) (by show bn<_;omega)).trans x2;have y0:=(bq.cell (p:=⟨b2,off2+u * 4,none⟩) (by show b2<_;omega)).trans t0;have y1:=(bq.cell (p:=⟨b2,off2+u * 4+1,none⟩) (by show b2<_;omega)).trans t1;have y2:=(bq.cell (p:=⟨b2,off2+u * 4+2,none⟩) (by show b2<_;omega)).trans t2;have y3:=(bq.cell (p:=⟨b2,off2+u * 4+3,none⟩) (by show b2<_;omega)).trans t3
 have i1:(k:Int)<(nodes.length:Int):=by omega
 have i2:(u:Int)<(toks.length:Int):=by omega
 simp only[mI,bP,aK] at hlen;clear t0 t1 t2 t3 x0 x1 x2 hn hni h hkv hal bq hi eX eY
 have hk4:((((w.alloc (.cells #[.slice (some ⟨b2,off2,none⟩) toks.length cap2,.slice (some ⟨bn,off,none⟩) nodes.length cap] 89)).alloc (.cells #[.int .i64 19,.int .i64 (u:Nat),.slice rO kl rP] 134)).alloc (.cells #[.int .i64 c,.string X,.string Y,.int .i64 q] 136))).heap[w.heap.size+1+1]?=some (.cells #[.int .i64 c,.string X,.string Y,.int .i64 q] 136 (0,0)):=by
  have:=heap_alloc_new ((w.alloc (.cells #[.slice (some ⟨b2,off2,none⟩) toks.length cap2,.slice (some ⟨bn,off,none⟩) nodes.length cap] 89)).alloc (.cells #[.int .i64 19,.int .i64 (u:Nat),.slice rO kl rP] 134)) (.cells #[.int .i64 c,.string X,.string Y,.int .i64 q] 136);rw[World.size_alloc,World.size_alloc] at this;exact this
 by_cases h5:c=5
 ·have h5I:((c:Int) == 5)=true:=by simp;omega
  rw[if_pos h5] at hlen;have H5:=ah h5;clear h5;simp only[dX,List.length_nil] at hlen;go_enter Tryz.func176,Tryz.ntmps176
  go_upto_region 6 with (go_at_call 79;refine(j6 B' b acc ⟨#[36]⟩ _ hb3 (by show acc.length+1≤140737488355328;omega) (by simp;omega)).mono ?_;rintro e w4 ⟨rfl,hb4,hl4,Qq⟩)
  have z4:=hb3.block Qq hk4 (by decide) (by decide)
  have z2:w4.cell? ⟨w.heap.size+1+1,2,none⟩=some (.string Y):=by rw[Lib.cell_of_heap z4];rfl
  have Kv:=hl4.size;simp only[World.size_alloc] at Kv;clear z4 hb3 hk4;go_wp2_with (go_at_call 79;refine(j6 B' b _ Y _ hb4 (by have e:(ByteArray.mk #[36]).data.toList.length=1:=rfl;rw[bP,e];omega) (by omega)).mono ?_;rintro e w5 ⟨rfl,hb5,hl5,Rq⟩)
  go_end0
  refine⟨rfl,?_,(kW.mono hB).trans (hl4.trans hl5),hk3.trans (Qq.trans Rq)⟩;rw[mI,if_pos H5.out,← List.append_assoc];exact hb5
 ·have h5I:((c:Int) == 5)=false:=by simp;omega
  rw[if_neg h5] at hlen;simp only[List.length_nil] at hlen;go_enter Tryz.func176,Tryz.ntmps176;go_wp2_with (go_at_call 79;(refine(j6 B' b acc Y _ hb3 (by omega) (by simp;omega)).mono ?_;rintro e w4 ⟨rfl,hb4,hl4,Qq⟩))
  go_end0
  refine⟨rfl,?_,(kW.mono hB).trans hl4,hk3.trans Qq⟩;rw[mI,if_neg h5,List.nil_append];exact hb4
theorem Nu (B B' b:Nat)(tv nv:Value)(toks:List Tok)(nodes:List Nd)(g k kd:Nat)(tk:Int)(ks:List Int)(s acc:List UInt8)(w:World)(h:aP B w (.agg #[tv,nv]) toks nodes)(mP:B≤B')(hbd:jO B' b acc w)(hB:B'≤w.heap.size)
  (IH:Vl B B' b tv nv toks nodes g) (hn:nodes[k]?=some ⟨kd,tk,ks⟩) (hkd:kd<100) (acv:kd≠19) (hks:ks.length≤1000000) (hs:kM (rF toks nodes g) ks=some s) (hlen:acc.length+([40]++fK kd++s++[41]).length≤1099511627776) :
  Calls Tryz.prog 176 #[.agg #[tv,nv],.pointer (some ⟨b,0,none⟩),.int .i64 k] w (H8 B' b (acc++([40]++fK kd++s++[41])) w):=by
 obtain⟨hi,hni⟩:=mR hn;obtain⟨at_,ct,an,cn,hv⟩:=h.slices;obtain⟨bn,off,cap,kv,rfl,hbn,x0,x1,x2,hkv⟩:=h.node hi;simp only[Value.agg.injEq,Array.mk.injEq,List.cons.injEq,and_true] at hv;obtain⟨rfl,-⟩:=hv;obtain⟨rO,rP,rfl,-,uT⟩:=hkv.form;rw[hni] at x0 x1 x2 uT;simp only at x0 x1 x2 uT;have hal:=(Below.refl w.heap.size w).alloc (Nat.le_refl _) (.cells #[.slice at_ toks.length ct,.slice (some ⟨bn,off,none⟩) nodes.length cap] 89);have bq:=hal.alloc (by simp) (.cells #[.int .i64 kd,.int .i64 tk,.slice rO ks.length rP] 134);have hb2:=(hbd.alloc (.cells #[.slice at_ toks.length ct,.slice (some ⟨bn,off,none⟩) nodes.length cap] 89)).alloc (.cells #[.int .i64 kd,.int .i64 tk,.slice rO ks.length rP] 134);have hk2:=((Lib.OthersKept.refl 5 (some b) w).alloc (.cells #[.slice at_ toks.length ct,.slice (some ⟨bn,off,none⟩) nodes.length cap] 89)).alloc (.cells #[.int .i64 kd,.int .i64 tk,.slice rO ks.length rP] 134);have x0':=(hal.cell (p:=⟨bn,off+k * 3,none⟩) (by show bn<_;omega)).trans x0;have x1':=(hal.cell (p:=⟨bn,off+k * 3+1,none⟩) (by show bn<_;omega)).trans x1;have x2':=(hal.cell (p:=⟨bn,off+k * 3+2,none⟩) (by show bn<_;omega)).trans x2
 have i1:(k:Int)<(nodes.length:Int):=by omega
 have nJ:((kd:Int) == 19)=false:=by simp;omega
 have e2:=heap_alloc_new (w.alloc (.cells #[.slice at_ toks.length ct,.slice (some ⟨bn,off,none⟩) nodes.length cap] 89)) (.cells #[.int .i64 kd,.int .i64 tk,.slice rO ks.length rP] 134);rw[World.size_alloc] at e2;have e1:=(Lib.alloc_old (w.alloc (.cells #[.slice at_ toks.length ct,.slice (some ⟨bn,off,none⟩) nodes.length cap] 89)) (.cells #[.int .i64 kd,.int .i64 tk,.slice rO ks.length rP] 134) w.heap.size (by simp)).trans (heap_alloc_new w (.cells #[.slice at_ toks.length ct,.slice (some ⟨bn,off,none⟩) nodes.length cap] 89));obtain⟨DG,hDG,eDG⟩:=je (fK kd)
 have HIT:Hid (∀ W,Calls Tryz.prog 238 #[.int .i64 kd] W fun e w'=>e=.returned (.string DG)∧w'=W):=ah fun W=>(Vm kd hkd W).mono fun e w' h=>⟨by rw[h.1,← hDG,← eDG,← hDG],h.2⟩
 rw[← hDG] at hlen ⊢;simp only[bP,aK,dX,List.length_nil] at hlen;have HT:=ah h;have HKF:=ah uT;have HS:=ah hs
 have hD0:(ByteArray.mk #[40]++DG).data.toList=[40]++DG.data.toList:=by simp
 clear x0 x1 x2 hn hni h hkv hal hi uT acv hkd hDG eDG hs hbd;go_enter Tryz.func176,Tryz.ntmps176
 go_upto_region 8 with (first|(go_at_call 238;refine(HIT.out _).mono ?_;rintro e w3 ⟨rfl,rfl⟩)|(go_at_call 79;refine(j6 B' b acc (ByteArray.mk #[40]++DG) _ hb2 (by rw[← aK,hD0];simp;omega) (by simp;omega)).mono ?_;rintro e w4 ⟨rfl,hb4,hl4,Qq⟩))
 have ZY:Below B' w w4:=(bq.mono hB).trans hl4;have hk4:=hk2.trans Qq;have T4:=hb2.block Qq e1 (by decide) (by decide);have N4:=hb2.block Qq e2 (by decide) (by decide)
 have q2:w4.cell? ⟨w.heap.size+1,2,none⟩=some (.slice rO ks.length rP):=by rw[Lib.cell_of_heap N4];rfl
 rw[hD0] at hb4;clear hb2 hl4 Qq e1 e2 N4 hk2 bq HIT hD0 x0' x1' x2' i1 nJ;have hab:(acc++([40]++DG.data.toList))++s=acc++([40]++DG.data.toList)++s:=rfl;generalize hA:acc++([40]++DG.data.toList)=A at hb4 hab
 have hAl:A.length+s.length+1≤1099511627776:=by
  rw[← hA];simp only[bP,aK,dX,List.length_nil];omega
 have HA:Hid (acc++([40]++DG.data.toList++s++[41])=A++s++[41]):=ah (by rw[← hA];simp);clear hA hlen hab;go_wp2
 go_loopw [42] (fun q wr=>∃ (j:Nat) (a r:List UInt8),j≤ks.length∧q=.int .i64 j∧kM (rF toks nodes g) (ks.drop j)=some r∧a++r=A++s∧jO B' b a wr∧wr.heap[w.heap.size]?=some (.cells #[.slice at_ toks.length ct,.slice (some ⟨bn,off,none⟩) nodes.length cap] 89 (0,0))∧Below B' w wr∧Lib.OthersKept 5 (some b) w wr) (fun q _=>ks.length - (intOf q).toNat)
 case atStart=>exact⟨0,A,s,Nat.zero_le _,rfl,HS.out,rfl,hb4,T4,ZY,hk4⟩
 case round =>
  obtain⟨j,a,r,hj,rfl,hr,har,hbd,hT,hbl,hok⟩:=hrel;have hz:=hbl.size;have afk:=(bG hT).1;have hal:=congrArg List.length har;rw[bP,bP] at hal;obtain⟨c0,c1⟩:=dn hT
  by_cases hjl:j<ks.length
  ·obtain⟨bk,YM,rfl,hbk,hcell⟩:=HKF.out (by omega)
   have hx:=(hbl.cell (p:=⟨bk,YM+j,none⟩) (by show bk<_;omega)).trans (hcell j hjl);rw[List.drop_eq_getElem_cons hjl,kM] at hr;generalize ks[j]=k1 at hx hr;obtain⟨s1,h1,hr⟩:=bH hr;obtain⟨s2,h2,hr⟩:=bH hr
   injection hr with hr
   rw[← hr] at har hal;simp only[bP,dX,List.length_nil] at hal
   have JC:(j:Int)<(ks.length:Int):=by omega
   have H2:=ah h2;have HR:Hid (a++[32]++s1++s2=A++s):=ah (by rw[← har];simp);have HT1:=ah (fun W (hW:Below B' w W)=>(HT.out.below (hW.mono mP)));have H1:=ah h1;have LU:=ah hT;clear hcell hr har h1 h2 hT
   go_upto_region 12 with (go_at_call 79;refine(j6 B' b a ⟨#[32]⟩ _ hbd (by show a.length+1≤140737488355328;omega) (by omega)).mono ?_;rintro e w5 ⟨rfl,hb5,hl5,Rq⟩)
   have T5:=hbd.block Rq LU.out (by decide) (by decide);obtain⟨d0,d1⟩:=dn T5;have Mr:=hl5.size;have acw:=hbl.trans hl5
   have hC:=IH k1 s1 _ w5 (HT1.out w5 acw) mP hb5 (by omega) H1.out (by
    rw[bP];have e:(ByteArray.mk #[32]).data.toList.length=1:=rfl;rw[e]
    omega)
   have HC:=ah hC;have adQ:=hok.trans Rq;have HB5:=ah hb5;clear hC c0 c1 hbd hl5 Rq hok hb5;go_wp2_with (go_at_call 176;refine HC.out.mono ?_;rintro e w6 ⟨rfl,hb6,hl6,ho6⟩);refine⟨⟨j+1,_,s2,by omega,by go_num,H2.out,HR.out,hb6,?_,acw.trans hl6,adQ.trans ho6⟩,by simp[intOf];omega⟩;exact HB5.out.block ho6 T5 (by decide) (by decide)
  ·obtain rfl:j=ks.length:=by omega
   have JC:decide ((ks.length:Int)<(ks.length:Int))=false:=decide_eq_false (by omega);rw[List.drop_length,kM] at hr
   injection hr with hr
   rw[← hr,List.append_nil] at har;have HR:=ah har;clear hr har HS;go_wp2_with (go_at_call 79;refine(j6 B' b a ⟨#[41]⟩ _ hbd (by show a.length+1≤140737488355328;omega) (by omega)).mono ?_;rintro e w5 ⟨rfl,hb5,hl5,Rq⟩)
   go_end0
   refine⟨rfl,?_,hbl.trans hl5,hok.trans Rq⟩;show jO B' b (acc++([40]++DG.data.toList++s++[41])) w5;rw[HA.out,← HR.out];exact hb5
structure CQ (toks:List Tok) (nodes:List Nd) (D:List UInt8):Prop where
 pos:0<nodes.length
 few:nodes.length≤1000000
 kids:∀ n∈nodes,n.kids.length≤1000000
 Vn:toks.length≤1000000
 right:kL toks.length nodes (su 0 toks.length)=true
 leaves:eG nodes (nodes.length+1) [((nodes.length:Nat):Int) - 1] []=some (su 0 toks.length)
 dump:rF toks nodes nodes.length ((nodes.length:Int) - 1)=some D
 adR:D.length≤1099511627776
 kinds:∀ n∈nodes,0≤n.kind∧n.kind<100
 leafs:∀ n∈nodes,n.kind=19→0≤n.tok∧n.tok<(toks.length:Int)
theorem FM {toks:List Tok}{nodes:List Nd}{D:List UInt8}(G:CQ toks nodes D)(B B' b:Nat)(tv nv:Value):∀ g,Vl B B' b tv nv toks nodes g
 | 0=>fun n s acc w h mP hbd hB hs hlen=>by rw[rF] at hs;cases hs
 | g+1=>fun n s acc w h mP hbd hB hs hlen=>by
  rw[rF] at hs
  by_cases h0:n<0
  ·rw[if_pos h0] at hs;cases hs
  rw[if_neg h0] at hs
  obtain⟨k,rfl⟩:∃ k:Nat,n=(k:Int):=⟨n.toNat,by omega⟩
  rw[Int.toNat_natCast] at hs
  cases hn:nodes[k]? with
  | none=>rw[hn] at hs;cases hs
  | some x =>
   rw[hn] at hs;simp only at hs;have hm:=List.mem_of_getElem? hn;obtain⟨kind,tok,ks⟩:=x;have hkd:=G.kinds _ hm;simp only at hkd hs
   by_cases h19:kind=19
   ·rw[if_pos h19] at hs
    subst h19;have hl:=G.leafs _ hm rfl;simp only at hl;rw[if_neg (by omega)] at hs
    obtain⟨u,rfl⟩:∃ u:Nat,tok=(u:Int):=⟨tok.toNat,by omega⟩
    have ZQ:u<toks.length:=by omega
    rw[Int.toNat_natCast,List.getElem?_eq_getElem ZQ,Option.map_some] at hs
    injection hs with hs
    subst hs;exact Nt B B' b tv nv toks nodes k u ks acc w h mP hbd hB hn ZQ hlen
   ·rw[if_neg h19] at hs
    obtain⟨kd,rfl⟩:∃ kd:Nat,kind=(kd:Int):=⟨kind.toNat,by omega⟩
    rw[Int.toNat_natCast] at hs;obtain⟨r,hr,rfl⟩:=Option.map_eq_some_iff.1 hs;exact Nu B B' b tv nv toks nodes g k kd tok ks r acc w h mP hbd hB (FM G B B' b tv nv g) hn (by omega) (by omega) (G.kids _ hm) hr hlen
def acy:Array Value:=#[.int .i64 6,.int .i64 6,.int .i64 7,.string ⟨#[43]⟩,.int .i64 6,.int .i64 6,.int .i64 7,.string ⟨#[45]⟩,.int .i64 7,.int .i64 7,.int .i64 8,.string ⟨#[42]⟩,.int .i64 7,.int .i64 7,.int .i64 8,.string ⟨#[47]⟩,.int .i64 7,.int .i64 7,.int .i64 8,.string ⟨#[37]⟩,.int .i64 5,.int .i64 6,.int .i64 6,.string ⟨#[61]⟩,.int .i64 5,.int .i64 6,.int .i64 6,.string ⟨#[60,62]⟩,.int .i64 5,.int .i64 6,.int .i64 6,.string ⟨#[60]⟩,.int .i64 5,.int .i64 6,.int .i64 6,.string ⟨#[60,61]⟩,.int .i64 5,.int .i64 6,.int .i64 6,.string ⟨#[62]⟩,.int .i64 5,.int .i64 6,.int .i64 6,.string ⟨#[62,61]⟩,.int .i64 3,.int .i64 3,.int .i64 4,.string ⟨#[38,38]⟩,.int .i64 2,.int .i64 2,.int .i64 3,.string ⟨#[124,124]⟩,.int .i64 1,.int .i64 2,.int .i64 1,.string ⟨#[61,62]⟩]
theorem Rs:∀ k:Nat,k<14→∀ w:World,(Instr.index 312 (.agg acy) (.int .i64 k)).run Tryz.prog w=.ok (.agg #[.int .i64 (ET ((k+7:Nat):Int)),.int .i64 (sD ((k+7:Nat):Int)),.int .i64 (wU ((k+7:Nat):Int)),.string ⟨(qg ((k+7:Nat):Int)).toArray⟩]) w
 | 0,_=>fun _=>by kernel_rfl
 | 1,_=>fun _=>by kernel_rfl
 | 2,_=>fun _=>by kernel_rfl
 | 3,_=>fun _=>by kernel_rfl
 | 4,_=>fun _=>by kernel_rfl
 | 5,_=>fun _=>by kernel_rfl
 | 6,_=>fun _=>by kernel_rfl
 | 7,_=>fun _=>by kernel_rfl
 | 8,_=>fun _=>by kernel_rfl
 | 9,_=>fun _=>by kernel_rfl
 | 10,_=>fun _=>by kernel_rfl
 | 11,_=>fun _=>by kernel_rfl
 | 12,_=>fun _=>by kernel_rfl
 | 13,_=>fun _=>by kernel_rfl
 | k+14,h=>absurd h (by omega)
theorem Pt (op:Int)(h1:7≤op)(h2:op≤20)(w:World):Calls Tryz.prog 209 #[.int .i64 op] w fun r w'=>r=.returned (.agg #[.int .i64 (ET op),.int .i64 (sD op),.int .i64 (wU op),.string ⟨(qg op).toArray⟩])∧Below w.heap.size w w':=by
 have hx:=Rs (op - 7).toNat (by omega);rw[show (((op - 7).toNat:Nat):Int)=op - 7 by omega,show ((((op - 7).toNat+7:Nat)):Int)=op by omega] at hx;unfold acy at hx;generalize ET op=a at *;generalize sD op=b at *;generalize wU op=c at *;generalize ByteArray.mk (qg op).toArray=d at *;go_enter Tryz.func209,Tryz.ntmps209;go_wp2;refine bodyPost_ret (v:=.agg #[.int .i64 a,.int .i64 b,.int .i64 c,.string d]) (by simp[results,Tryz.results209,go_sem]) rfl ⟨rfl,?_⟩;exact aj w _
theorem Nv (a b c d:Value)(w:World):(Instr.field 275 (.agg #[a,b,c,d]) 0).run Tryz.prog w=.ok a w:=by kernel_rfl
theorem Rt (op:Int)(NM MD:ByteArray)(ng:Bool)(am:Option Addr)(wn cm:Nat)(ys:Bool)(ae:Option Addr)(wk ce:Nat)(a_:Int)(w:World) :
  Calls Tryz.prog 258 #[.agg #[.int .i64 op,.string NM,.string MD,.bool ng,.slice am wn cm,.bool ys,.slice ae wk ce,.int .i64 a_]] w fun r w'=>r=.returned (.int .i64 (ET op))∧Below w.heap.size w w':=by
 have acz:∀ W,Calls Tryz.prog 291 #[.int .i64 op] W fun r w'=>r=.returned (.bool (decide (7≤op) && decide (op≤20)))∧W=w':=fun W=>by
  by_cases h7:7≤op
  ·rw[decide_eq_true h7,Bool.true_and]
   go_enter Tryz.func291,Tryz.ntmps291;go_wp2;go_ret;exact⟨rfl,rfl⟩
  ·rw[decide_eq_false h7,Bool.false_and]
   have h7':op<7:=by omega
   go_enter Tryz.func291,Tryz.ntmps291;go_wp2;go_ret;exact⟨rfl,rfl⟩
 have HBn:=ah acz;clear acz;have hb0:=aj w (.cells (aU op NM MD ng (.slice am wn cm) ys (.slice ae wk ce) a_) 46)
 by_cases h:7≤op∧op≤20
 ·have HT:=ah (fun W=>Pt op h.1 h.2 W)
  have HB:Hid (∀ W,Calls Tryz.prog 291 #[.int .i64 op] W fun r w'=>r=.returned (.bool true)∧W=w'):=ah fun W=>(HBn.out W).mono fun r w' q=>⟨by rw[q.1,decide_eq_true h.1,decide_eq_true h.2];rfl,q.2⟩
  clear HBn h;have tf:=Nv;generalize ET op=l at *;go_enter Tryz.func258,Tryz.ntmps258;go_wp2_with (first|(go_at_call 291;refine(HB.out _).mono ?_;rintro r w' ⟨rfl,rfl⟩)|(go_at_call 209;refine(HT.out _).mono ?_;rintro r w1 ⟨rfl,hb1⟩));go_ret;exact⟨rfl,hb0.trans (hb1.mono hb0.size)⟩
 ·have HB:Hid (∀ W,Calls Tryz.prog 291 #[.int .i64 op] W fun r w'=>r=.returned (.bool false)∧W=w'):=ah fun W=>(HBn.out W).mono fun r w' q=>⟨by
   rw[q.1]
   by_cases h7:7≤op
   ·rw[decide_eq_false (by omega:¬ op≤20),Bool.and_false]
   ·rw[decide_eq_false h7,Bool.false_and],q.2⟩
  clear HBn
  have hl:ET op=if op=5 then 8 else if op=6 then 4 else if 21≤op∧op≤23 then 0 else 9:=by
   unfold ET
   repeat' (first|omega|split)
  rw[hl];clear hl
  by_cases h5:op=5
  ·subst h5
   clear h;go_enter Tryz.func258,Tryz.ntmps258;go_wp2_with (go_at_call 291;refine(HB.out _).mono ?_;rintro r w' ⟨rfl,rfl⟩);go_ret;exact⟨rfl,hb0⟩
  by_cases h6:op=6
  ·subst h6
   clear h h5;go_enter Tryz.func258,Tryz.ntmps258;go_wp2_with (go_at_call 291;refine(HB.out _).mono ?_;rintro r w' ⟨rfl,rfl⟩);go_ret;exact⟨rfl,hb0⟩
  rw[if_neg h5,if_neg h6];have t5:(op == 5)=false:=beq_eq_false_iff_ne.2 h5;have t6:(op == 6)=false:=beq_eq_false_iff_ne.2 h6
  by_cases h21:21≤op∧op≤23
  ·rw[if_pos h21]
   obtain⟨u1,u2⟩:=h21;clear h h5 h6;go_enter Tryz.func258,Tryz.ntmps258;go_wp2_with (go_at_call 291;refine(HB.out _).mono ?_;rintro r w' ⟨rfl,rfl⟩);go_ret;exact⟨rfl,hb0⟩
  ·rw[if_neg h21]
   by_cases u1:21≤op
   ·have u2:23<op:=by omega
    clear h h5 h6 h21;go_enter Tryz.func258,Tryz.ntmps258;go_wp2_with (go_at_call 291;refine(HB.out _).mono ?_;rintro r w' ⟨rfl,rfl⟩);go_ret;exact⟨rfl,hb0⟩
   ·have u2:op<21:=by omega
    clear h h5 h6 h21 u1;go_enter Tryz.func258,Tryz.ntmps258;go_wp2_with (go_at_call 291;refine(HB.out _).mono ?_;rintro r w' ⟨rfl,rfl⟩);go_ret;exact⟨rfl,hb0⟩
def bS (B' b:Nat)(acc:List UInt8)(w:World)(r:Ending)(w':World):Prop:=r=.returned (.tuple #[])∧jO B' b acc w' 155∧Below B' w w'∧Lib.OthersKept 5 (some b) w w'
def qC (l:List ByteArray):List UInt8:=l.flatMap fun s=>s.data.toList
theorem Ru {l:List ByteArray}{k:Nat}(h:k<l.length):qC (l.take (k+1))=qC (l.take k)++l[k].data.toList:=by
 unfold qC;rw[List.take_succ_eq_append_getElem h,List.flatMap_append,List.flatMap_singleton]
theorem YN (l:List ByteArray)(k:Nat):(qC (l.take k)).length≤(qC l).length:=by
 unfold qC
 conv=>rhs;rw[← List.take_append_drop k l,List.flatMap_append,bP]
 omega
theorem zf (ss:List ByteArray)(B' b sb cap:Nat)(fr:Nat × Nat)(acc:List UInt8)(w:World)(hb:jO B' b acc w 155)(hs:w.heap[sb]?=some (.cells (ss.map Value.string).toArray 9 fr))(hB:B'≤w.heap.size)(hn:acc.length+(qC ss).length≤1099511627776)(hl:ss.length≤1000) :
  Calls Tryz.prog 128 #[.pointer (some ⟨b,0,none⟩),.slice (some ⟨sb,0,none⟩) ss.length cap] w (bS B' b (acc++qC ss) w):=by
 have H0:Hid (jO B' b acc w 155):=ah hb;have HS:=ah hs;clear hb hs;go_enter Tryz.func128,Tryz.ntmps128;go_wp2
 go_loopw [8] (fun q wr=>∃ k:Nat,k≤ss.length∧q=.int .i64 k∧jO B' b (acc++qC (ss.take k)) wr 155∧Below B' w wr∧Lib.OthersKept 5 (some b) w wr) (fun q _=>ss.length - (intOf q).toNat)
 case atStart=>exact⟨0,Nat.zero_le _,rfl,by simpa [qC] using H0.out,Below.refl _ _,Lib.OthersKept.refl _ _ _⟩
 case round =>
  obtain⟨k,hk,rfl,hbd,hbl,hok⟩:=hrel;have hz:=hbl.size
  by_cases hlt:k<ss.length
  ·have hS2:=H0.out.block hok HS.out (by decide) (by decide)
   have hx:wr.cell? ⟨sb,k,none⟩=some (.string ss[k]):=by
    rw[Lib.cell_of_heap hS2];simp[hlt]
   have hts:=Ru hlt;have hle:=YN ss (k+1);rw[hts,bP,aK] at hle;have Vo:=ah hbd;have HTS:=ah hts;generalize ss[k]=S at hx hle HTS;generalize qC (ss.take k)=c at hle HTS Vo
   have hlen:(acc++c).length+S.size≤140737488355328:=by rw[bP];omega
   have hnc:(⟨b,0,none⟩:Addr).block<wr.heap.size:=Vo.out.lt
   have nJ:(k:Int)<(ss.length:Int):=by omega
   clear hbd hts hS2 hle;go_wp2_with (go_at_call 79;refine(j6 B' b (acc++c) S _ Vo.out hlen (by omega)).mono ?_;rintro r w2 ⟨rfl,hb2,hl2,ho2⟩);exact⟨⟨k+1,by omega,by go_num,by rw[HTS.out,← List.append_assoc];exact hb2,hbl.trans hl2,hok.trans ho2⟩,by simp[intOf];omega⟩
  ·obtain rfl:k=ss.length:=by omega
   have nJ:decide ((ss.length:Int)<(ss.length:Int))=false:=decide_eq_false (by omega);rw[List.take_length] at hbd;have Vo:=ah hbd;clear hbd;go_wp2
   go_end0
   exact⟨rfl,Vo.out,hbl,hok⟩
theorem oh {r:Option Nat}{w w':World}(hb:Below w.heap.size w w'):Lib.OthersKept 5 r w w':=fun k o hk _ _=>(hb.block k (bG hk).1).trans hk
structure jI (w:World) (B' b:Nat) (acc:List UInt8) (W:World):Prop where
 qM:jO B' b acc W 155
 rQ:Below B' w W
 kept:Lib.OthersKept 5 (some b) w W
theorem jO.kX {T:TypeId}{B b:Nat}{acc:List UInt8}{w w':World}(h:jO B b acc w T)(hb:Below w.heap.size w w'):jO B b acc w' T:=by
 have key:∀ p,Lib.BuilderAtF T 5 B b p (Lib.byteCells acc) w→Lib.BuilderAtF T 5 B b p (Lib.byteCells acc) w':=by
  rintro p ⟨h1,v,h2,⟨h3,h4⟩,h5⟩;refine⟨h1,v,(hb.block b h.lt).trans h2,⟨h3,?_⟩,h5⟩
  rcases h4 with h4|⟨g,cap,cur,fz,q1,q2,q3,q4⟩
  ·exact Or.inl h4
  ·exact Or.inr ⟨g,cap,cur,fz,q1,q2,(hb.block g (bG q3).1).trans q3,q4⟩
 rcases h with h|h
 ·exact Or.inl (key _ h)
 ·exact Or.inr (key _ h)
theorem jI.start {w:World}{B' b:Nat}{acc:List UInt8}(h:jO B' b acc w 155):jI w B' b acc w:=⟨h,Below.refl _ _,Lib.OthersKept.refl _ _ _⟩
theorem jI.below {w W W':World}{B' b:Nat}{acc:List UInt8}(h:jI w B' b acc W)(hb:Below W.heap.size W W')(hB:B'≤w.heap.size):jI w B' b acc W' :=
 ⟨h.qM.kX hb,h.rQ.trans (hb.mono (Nat.le_trans hB h.rQ.size)),h.kept.trans (oh hb)⟩
theorem jI.write {w W W':World}{B' b:Nat}{acc acc':List UInt8}{r:Ending}(h:jI w B' b acc W)(hw:bS B' b acc' W r W'):jI w B' b acc' W':=⟨hw.2.1,h.rQ.trans hw.2.2.1,h.kept.trans hw.2.2.2⟩
theorem jI.box {w W:World}{B' b k:Nat}{acc acc0:List UInt8}(h:jI w B' b acc W)(h0:jO B' b acc0 w 155){cs:Array Value}{T:TypeId}{fr:Nat × Nat}(hk:w.heap[k]?=some (.cells cs T fr))(hT:T≠155)(he:T≠5):W.heap[k]?=some (.cells cs T fr):=h0.block h.kept hk hT he
theorem bS.from {w w1 W:World}{B' b:Nat}{acc:List UInt8}(hb:Below w.heap.size w w1)(hB:B'≤w.heap.size)(h:jI w1 B' b acc W):bS B' b acc w (.returned (.tuple #[])) W :=
 ⟨rfl,h.qM,(hb.mono hB).trans h.rQ,(oh hb).trans h.kept⟩
theorem bS.eq {B' b:Nat}{acc:List UInt8}{w W:World}{r:Ending}(h:bS B' b acc w r W):r=.returned (.tuple #[]):=h.1
theorem iN (S:ByteArray)(B' b:Nat)(acc:List UInt8)(w:World)(hb:jO B' b acc w 155)(hB:B'≤w.heap.size)(hn:acc.length+S.size≤1099511627776) :
  Calls Tryz.prog 128 #[.pointer (some ⟨b,0,none⟩),.slice (some ⟨w.heap.size,0,none⟩) 1 1] (w.alloc (.cells #[.string S] 9)) (bS B' b (acc++S.data.toList) w):=by
 have hal:=aj w (.cells #[.string S] 9);have h:=zf [S] B' b w.heap.size 1 (0,0) acc (w.alloc (.cells #[.string S] 9)) (hb.alloc _) (heap_alloc_new w _) (by simp;omega) (by simp[qC,aK];omega) (by simp);rw[show qC [S]=S.data.toList by simp[qC]] at h
 exact h.mono fun r w' q=>⟨q.1,q.2.1,(hal.mono hB).trans q.2.2.1,(oh hal).trans q.2.2.2⟩
theorem zh (S T:ByteArray)(B' b:Nat)(acc:List UInt8)(w:World)(hb:jO B' b acc w 155)(hB:B'≤w.heap.size)(hn:acc.length+S.size+T.size≤1099511627776) :
  Calls Tryz.prog 128 #[.pointer (some ⟨b,0,none⟩),.slice (some ⟨w.heap.size,0,none⟩) 2 2] (w.alloc (.cells #[.string S,.string T] 9)) (bS B' b (acc++(S.data.toList++T.data.toList)) w):=by
 have hal:=aj w (.cells #[.string S,.string T] 9);have h:=zf [S,T] B' b w.heap.size 2 (0,0) acc (w.alloc (.cells #[.string S,.string T] 9)) (hb.alloc _) (heap_alloc_new w _) (by simp;omega) (by simp[qC,aK];omega) (by simp);rw[show qC [S,T]=S.data.toList++T.data.toList by simp[qC]] at h
 exact h.mono fun r w' q=>⟨q.1,q.2.1,(hal.mono hB).trans q.2.2.1,(oh hal).trans q.2.2.2⟩
theorem Rv (S T U:ByteArray)(B' b:Nat)(acc:List UInt8)(w:World)(hb:jO B' b acc w 155)(hB:B'≤w.heap.size)(hn:acc.length+S.size+T.size+U.size≤1099511627776) :
  Calls Tryz.prog 128 #[.pointer (some ⟨b,0,none⟩),.slice (some ⟨w.heap.size,0,none⟩) 3 3] (w.alloc (.cells #[.string S,.string T,.string U] 9)) (bS B' b (acc++(S.data.toList++(T.data.toList++U.data.toList))) w):=by
 have hal:=aj w (.cells #[.string S,.string T,.string U] 9);have h:=zf [S,T,U] B' b w.heap.size 3 (0,0) acc (w.alloc (.cells #[.string S,.string T,.string U] 9)) (hb.alloc _) (heap_alloc_new w _) (by simp;omega) (by simp[qC,aK];omega) (by simp);rw[show qC [S,T,U]=S.data.toList++(T.data.toList++U.data.toList) by simp[qC]] at h
 exact h.mono fun r w' q=>⟨q.1,q.2.1,(hal.mono hB).trans q.2.2.1,(oh hal).trans q.2.2.2⟩
def Nw (e:PZ):Prop:=∀ (B B' b:Nat) (am:Option Addr) (wn cm:Nat) (ae:Option Addr) (ce:Nat) (acc:List UInt8) (w:World),oI YA (fun k=>k<B) w (.slice am wn cm) (.slice ae e.kids.length ce) e→B≤B'→jO B' b acc w 155→B'≤w.heap.size→acc.length+e.text.length≤1099511627776 →
  Calls Tryz.prog 129 #[.pointer (some ⟨b,0,none⟩),.agg #[.int .i64 e.op,.string ⟨e.name.toArray⟩,.string ⟨e.module.toArray⟩,.bool (decide (e.num<0)),.slice am wn cm,.bool e.yes,.slice ae e.kids.length ce,.int .i64 e.at_]] w (bS B' b (acc++e.text) w)
def zi (e:PZ):Prop:=∀ (least:Int) (B B' b:Nat) (am:Option Addr) (wn cm:Nat) (ae:Option Addr) (ce:Nat) (acc:List UInt8) (w:World),oI YA (fun k=>k<B) w (.slice am wn cm) (.slice ae e.kids.length ce) e→B≤B'→jO B' b acc w 155→B'≤w.heap.size→acc.length+(oJ least (e.op,e.text)).length≤1099511627776 →
  Calls Tryz.prog 206 #[.pointer (some ⟨b,0,none⟩),.agg #[.int .i64 e.op,.string ⟨e.name.toArray⟩,.string ⟨e.module.toArray⟩,.bool (decide (e.num<0)),.slice am wn cm,.bool e.yes,.slice ae e.kids.length ce,.int .i64 e.at_],.int .i64 least] w (bS B' b (acc++oJ least (e.op,e.text)) w)
theorem YO (e:PZ)(he:Nw e):zi e:=by
 intro least B B' b am wn cm ae ce acc w h mP hbd hB hn;have hal:=aj w (.cells (aU e.op ⟨e.name.toArray⟩ ⟨e.module.toArray⟩ (decide (e.num<0)) (.slice am wn cm) e.yes (.slice ae e.kids.length ce) e.at_) 46);have hN:=heap_alloc_new w (.cells (aU e.op ⟨e.name.toArray⟩ ⟨e.module.toArray⟩ (decide (e.num<0)) (.slice am wn cm) e.yes (.slice ae e.kids.length ce) e.at_) 46);have hb1:=hbd.kX hal
 have hlv:=fun W=>Rt e.op ⟨e.name.toArray⟩ ⟨e.module.toArray⟩ (decide (e.num<0)) am wn cm e.yes ae e.kids.length ce e.at_ W
 have HLV:=ah hlv;have HE:=ah (fun (acc':List UInt8) (W:World) (hW:Below B' w W) (hb:jO B' b acc' W 155) (hn':acc'.length+e.text.length≤1099511627776)=>he B B' b am wn cm ae ce acc' W (h.frame (aQ.sI hW (fun k hk=>by omega))) mP hb (Nat.le_trans hB hW.size) hn')
 have hp:oJ least (e.op,e.text)=if ET e.op<least then [40]++e.text++[41] else e.text:=rfl
 have HP:=ah hp;clear h he hbd hlv hp;generalize oJ least (e.op,e.text)=out at *;generalize e.text=tx at *;generalize decide (e.num<0)=ng at *;generalize e.op=op at *;generalize ET op=lv at *;have vU:=hal.mono hB
 by_cases hl:lv<least
 ·have HO:Hid (out=[40]++tx++[41]):=ah (by rw[HP.out,if_pos hl])
  have hln:acc.length+1+tx.length+1≤1099511627776:=by
   have:=congrArg List.length HO.out;simp only[bP,dX,List.length_nil] at this;omega
  clear HP hn;go_enter Tryz.func206,Tryz.ntmps206
  go_upto_region 1 with fail
  change Code.wp _ _ _ _ (w.alloc (.cells (aU op ⟨e.name.toArray⟩ ⟨e.module.toArray⟩ ng (.slice am wn cm) e.yes (.slice ae e.kids.length ce) e.at_) 46));generalize w.alloc _=w1 at hal hN hb1 vU ⊢;have hB1:=Nat.le_trans hB hal.size;obtain⟨y0,y1,y2,y3,y4,y5,y6,y7⟩:=aG hN;have hl1:=(bG hN).1
  go_upto_region 3 with (go_at_call 258;refine(HLV.out _).mono ?_;rintro r w2 ⟨rfl,hb2⟩)
  have s2:=(jI.start hb1).below hb2 hB1;have hz2:=s2.rQ.size;clear y0 y1 y2 y3 y4 y5 y6 y7
  go_upto_region 4 with (go_at_call 128;refine(iN ⟨#[40]⟩ B' b acc w2 s2.qM (by omega) (by show acc.length+1≤_;omega)).mono ?_;rintro r w3 h3;obtain rfl:=h3.eq)
  have s3:=s2.write h3;have hz3:=s3.rQ.size;obtain⟨y0,y1,y2,y3,y4,y5,y6,y7⟩:=aG (s3.box hb1 hN (by decide) (by decide));have Ky:=ah (HE.out (acc++[40]) w3 (vU.trans s3.rQ) s3.qM (by rw[bP];simp;omega))
  go_upto_region 5 with (go_at_call 129;refine Ky.out.mono ?_;rintro r w4 h4;obtain rfl:=h4.eq)
  have s4:=s3.write h4;have Kv:=s4.rQ.size;clear y0 y1 y2 y3 y4 y5 y6 y7;go_wp2_with (go_at_call 128;refine(iN ⟨#[41]⟩ B' b (acc++[40]++tx) w4 s4.qM (by omega) (by show (acc++[40]++tx).length+1≤_;simp;omega)).mono ?_;rintro r w5 h5;obtain rfl:=h5.eq)
  go_end0
  have:=bS.from hal hB (s4.write h5)
  rw[HO.out]
  simpa [List.append_assoc] using this
 ·have HO:Hid (out=tx):=ah (by rw[HP.out,if_neg hl])
  have hln:acc.length+tx.length≤1099511627776:=by rw[← HO.out];exact hn
  have hl':least≤lv:=by omega
  clear HP hn hl;go_enter Tryz.func206,Tryz.ntmps206
  go_upto_region 1 with fail
  change Code.wp _ _ _ _ (w.alloc (.cells (aU op ⟨e.name.toArray⟩ ⟨e.module.toArray⟩ ng (.slice am wn cm) e.yes (.slice ae e.kids.length ce) e.at_) 46));generalize w.alloc _=w1 at hal hN hb1 vU ⊢;have hB1:=Nat.le_trans hB hal.size;obtain⟨y0,y1,y2,y3,y4,y5,y6,y7⟩:=aG hN
  go_upto_region 2 with (go_at_call 258;refine(HLV.out _).mono ?_;rintro r w2 ⟨rfl,hb2⟩)
  have s2:=(jI.start hb1).below hb2 hB1;clear y0 y1 y2 y3 y4 y5 y6 y7;obtain⟨y0,y1,y2,y3,y4,y5,y6,y7⟩:=aG (s2.box hb1 hN (by decide) (by decide));have Ky:=ah (HE.out acc w2 (vU.trans s2.rQ) s2.qM hln);go_wp2_with (go_at_call 129;refine Ky.out.mono ?_;rintro r w4 h4;obtain rfl:=h4.eq)
  go_end0
  rw[HO.out]
  exact bS.from hal hB (s2.write h4)
theorem YP (op:Int):0≤ET op:=by
 unfold ET
 repeat' (first|omega|split)
theorem zk (k:Int × List UInt8):oJ 0 k=k.2:=by
 have:=YP k.1;unfold oJ;rw[if_neg (by omega)]
def bK:List ByteArray→List PZ→List UInt8
 | s :: ss,x :: xs=>s.data.toList++x.text++bK ss xs
 | _,_=>[]
theorem zY:∀ {ss:List ByteArray} {xs:List PZ} {k:Nat} (h:k<ss.length) (h2:k<xs.length),bK (ss.take (k+1)) (xs.take (k+1))=bK (ss.take k) (xs.take k)++(ss[k].data.toList++xs[k].text)
 | [],_,_,h,_=>absurd h (by simp)
 | _ :: _,[],_,_,h=>absurd h (by simp)
 | s :: ss,x :: xs,0,_,_=>by simp[bK]
 | s :: ss,x :: xs,k+1,h,h2=>by
  have ih:=zY (ss:=ss) (xs:=xs) (k:=k) (by simpa using h) (by simpa using h2);simp only[List.take_succ_cons,bK,List.getElem_cons_succ] at ih ⊢;rw[ih]
  simp
theorem FN:∀ (ss:List ByteArray) (xs:List PZ) (k:Nat),(bK (ss.take k) (xs.take k)).length≤(bK ss xs).length
 | [],xs,k=>by simp[bK]
 | s :: ss,[],k=>by simp[bK]
 | s :: ss,x :: xs,0=>by simp[bK]
 | s :: ss,x :: xs,k+1=>by
  have:=FN ss xs k;simp only[List.take_succ_cons,bK,bP];omega
theorem jH.at {B:Nat}{w:World}{ae:Option Addr}{ks:List PZ}(h:jH B w ae ks){W:World}(hW:Below B w W){k:Nat}(hk:k<ks.length):∃ b off am wn cm ak ck,ae=some ⟨b,off,none⟩∧b<B∧oI YA (fun b=>b<B) W (.slice am wn cm) (.slice ak ks[k].kids.length ck) ks[k] ∧
  W.cell? ⟨b,off+k * 8,none⟩=some (.int .i64 ks[k].op)∧W.cell? ⟨b,off+k * 8+1,none⟩=some (.string ⟨ks[k].name.toArray⟩)∧W.cell? ⟨b,off+k * 8+2,none⟩=some (.string ⟨ks[k].module.toArray⟩)∧W.cell? ⟨b,off+k * 8+3,none⟩=some (.bool (decide (ks[k].num<0)))∧W.cell? ⟨b,off+k * 8+4,none⟩=some (.slice am wn cm)∧W.cell? ⟨b,off+k * 8+5,none⟩=some (.bool ks[k].yes)∧W.cell? ⟨b,off+k * 8+6,none⟩=some (.slice ak ks[k].kids.length ck)∧W.cell? ⟨b,off+k * 8+7,none⟩=some (.int .i64 ks[k].at_):=by
 obtain⟨b,off,h1,h2,h3,h4⟩:=h (by omega);obtain⟨am,wn,cm,ak,ck,h5,h6⟩:=h4 k hk;exact⟨b,off,am,wn,cm,ak,ck,h1,h2,h5.frame (aQ.sI hW (fun b hb=>hb)),(hW.cell (p:=⟨b,off+k * 8,none⟩) h2).trans (h6 0 _ rfl),(hW.cell (p:=⟨b,off+k * 8+1,none⟩) h2).trans (h6 1 _ rfl),(hW.cell (p:=⟨b,off+k * 8+2,none⟩) h2).trans (h6 2 _ rfl),(hW.cell (p:=⟨b,off+k * 8+3,none⟩) h2).trans (h6 3 _ rfl),(hW.cell (p:=⟨b,off+k * 8+4,none⟩) h2).trans (h6 4 _ rfl),(hW.cell (p:=⟨b,off+k * 8+5,none⟩) h2).trans (h6 5 _ rfl),(hW.cell (p:=⟨b,off+k * 8+6,none⟩) h2).trans (h6 6 _ rfl),(hW.cell (p:=⟨b,off+k * 8+7,none⟩) h2).trans (h6 7 _ rfl)⟩
theorem zl (op:Int)(NM MD:ByteArray)(ng:Bool)(am:Option Addr)(wn cm:Nat)(ys:Bool)(ae:Option Addr)(ce:Nat)(a_:Int)(ks:List PZ)(ss:List ByteArray)(hl:ss.length≤ks.length)(hl2:ss.length≤1000)(hk:∀ x∈ks,zi x)(B B' b sb cap:Nat)(fr:Nat × Nat)(acc:List UInt8)(w:World)
  (h:jH B w ae ks) (mP:B≤B') (hbd:jO B' b acc w 155) (hs:w.heap[sb]?=some (.cells (ss.map Value.string).toArray 9 fr)) (hB:B'≤w.heap.size) (hn:acc.length+(bK ss ks).length≤1099511627776) :
  Calls Tryz.prog 207 #[.pointer (some ⟨b,0,none⟩),.agg #[.int .i64 op,.string NM,.string MD,.bool ng,.slice am wn cm,.bool ys,.slice ae ks.length ce,.int .i64 a_],.slice (some ⟨sb,0,none⟩) ss.length cap] w (bS B' b (acc++bK ss ks) w):=by
 have hal:=aj w (.cells (aU op NM MD ng (.slice am wn cm) ys (.slice ae ks.length ce) a_) 46);have hN:=heap_alloc_new w (.cells (aU op NM MD ng (.slice am wn cm) ys (.slice ae ks.length ce) a_) 46);have hb1:=hbd.kX hal;have hs1:=(hal.block sb (bG hs).1).trans hs;have vU:=hal.mono hB;have HH:=ah h;have HK:=ah hk;clear h hk hbd hs;go_enter Tryz.func207,Tryz.ntmps207
 go_upto_region 1 with fail
 change Code.wp _ _ _ _ (w.alloc (.cells (aU op NM MD ng (.slice am wn cm) ys (.slice ae ks.length ce) a_) 46));generalize w.alloc _=w1 at hal hN hb1 vU hs1 ⊢;have hB1:=Nat.le_trans hB hal.size;have XI:=ah hs1;have HN:=ah hN;have HB1:=ah hb1;clear hs1 hN hb1;go_wp2
 go_loopw [10] (fun q wr=>∃ k:Nat,k≤ss.length∧q=.int .i64 k∧jI w1 B' b (acc++bK (ss.take k) (ks.take k)) wr) (fun q _=>ss.length - (intOf q).toNat)
 case atStart=>exact⟨0,Nat.zero_le _,rfl,by simpa [bK] using jI.start HB1.out⟩
 case round =>
  obtain⟨k,hkl,rfl,st⟩:=hrel;have hz:=st.rQ.size
  by_cases hlt:k<ss.length
  ·have hS2:=st.box HB1.out XI.out (by decide) (by decide)
   have hx:wr.cell? ⟨sb,k,none⟩=some (.string ss[k]):=by
    rw[Lib.cell_of_heap hS2];simp[hlt]
   have hsn:=zY hlt (by omega:k<ks.length);have hle:=FN ss ks (k+1);rw[hsn,bP,bP,aK] at hle;have HD:=ah (HK.out _ (List.getElem_mem (by omega:k<ks.length)));have HKZ:=ah (fun W hW=>HH.out.at (W:=W) hW (by omega:k<ks.length));have pQ:=ah hsn;have HST:=ah st;clear hS2 hsn st;generalize ss[k]=S at hx hle pQ;generalize bK (ss.take k) (ks.take k)=c at hle pQ HST;generalize ks[k]'(by omega)=x at hle HD HKZ pQ
   have nJ:(k:Int)<(ss.length:Int):=by omega
   have Kz:(k:Int)<(ks.length:Int):=by omega
   have hln:acc.length+c.length+(S.size+x.text.length)≤1099511627776:=by omega
   clear hle
   go_upto_region 5 with (go_at_call 128;refine(iN S B' b (acc++c) wr HST.out.qM (by omega) (by rw[bP];omega)).mono ?_;rintro r w2 h2;obtain rfl:=h2.eq)
   have s2:=HST.out.write h2;have hz2:=s2.rQ.size;obtain⟨y0,y1,y2,y3,y4,y5,y6,y7⟩:=aG (s2.box HB1.out HN.out (by decide) (by decide));obtain⟨kb,off,FP,FQ,FR,IY,ck1,rfl,hkB,hE,x0,x1,x2,x3,x4,x5,x6,x7⟩:=HKZ.out w2 ((vU.trans s2.rQ).mono mP);have HC:=ah (HD.out 0 B B' b FP FQ FR IY ck1 (acc++c++S.data.toList) w2 hE mP s2.qM (by omega) (by rw[zk];simp only[bP,aK];omega));have HSS:=ah s2;clear hE HST h2 s2 HKZ HD y0 y1 y2 y3 y4 y5 y7 hx;go_wp2_with (go_at_call 206;refine HC.out.mono ?_;rintro r w3 h3;obtain rfl:=h3.eq);refine⟨⟨k+1,by omega,by go_num,?_⟩,by simp[intOf];omega⟩;have:=HSS.out.write h3;rw[zk] at this;rw[pQ.out]
   simpa [List.append_assoc] using this
  ·obtain rfl:k=ss.length:=by omega
   have nJ:decide ((ss.length:Int)<(ss.length:Int))=false:=decide_eq_false (by omega)
   have hp:bK (ss.take ss.length) (ks.take ss.length)=bK ss ks:=by
    have:∀ (ss:List ByteArray) (ks:List PZ),bK (ss.take ss.length) (ks.take ss.length)=bK ss ks:=by
     intro ss
     induction ss with
     | nil=>intro ks;simp[bK]
     | cons s ss ih =>
      intro ks
      cases ks with
      | nil=>simp[bK]
      | cons x xs=>simp only[dX,List.take_succ_cons,bK,ih]
    exact this ss ks
   rw[hp] at st;have HST:=ah st;clear st hp;go_wp2
   go_end0
   exact bS.from hal hB HST.out
end Go.Proofs.YtknicmmigbhpcaaGreatDoor
