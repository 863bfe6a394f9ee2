/- Walks and plain laws: SigW1, SigW2, DumpL. -/
import Derived.Test.YtknicmmigbhpcaaGreatDoorF32
import Derived.BigGuard
set_option maxHeartbeats 16000000
set_option maxRecDepth 100000
set_option linter.unusedVariables false
set_option linter.unusedSimpArgs false
namespace Go.Proofs.YtknicmmigbhpcaaGreatDoor
open Go.RowKit Go Go.Sort
def Ox (e:PZ):Prop:=∀ (B:Nat) (am:Option Addr) (wn cm:Nat) (ae:Option Addr) (ce:Nat) (w:World),oI YA (fun b=>b<B) w (.slice am wn cm) (.slice ae e.kids.length ce) e→B≤w.heap.size →
 Calls Tryz.prog 99 #[.agg #[.int .i64 e.op,.string ⟨e.name.toArray⟩,.string ⟨e.module.toArray⟩,.bool (decide (e.num<0)),.slice am wn cm,.bool e.yes,.slice ae e.kids.length ce,.int .i64 e.at_]] w fun r w'=>r=.returned (.bool e.D6)∧Below w.heap.size w w'
theorem Lm (e:PZ)(hl:e.kids.length≤1099511627776)(IH:∀ x∈e.kids,Ox x):Ox e:=by
 intro B am wn cm ae ce w h hB;have hkz:=h.U9
 have Po:=fun (W:World) (hW:Below w.heap.size w W)=>mD 99 #[] PZ.D6 (enters_of Tryz.func99 (by kernel_rfl) rfl) B ae ce e.kids W (fun h0=>by
   obtain⟨b,off,q1,q2,q3,q4⟩:=hkz h0;refine⟨b,off,q1,q2,Nat.lt_of_lt_of_le q3 hW.size,fun i hi=>?_⟩;obtain⟨BU,wn',BX,xM,xO,q5,q6⟩:=q4 i hi
   exact⟨BU,wn',BX,xM,xO,q5.frame (aQ.of hW),fun j u hu=>(hW.cell (p:=⟨b,off+i * 8+j,none⟩) q3).trans (q6 j u hu)⟩) (by have:=hW.size;omega) hl fun x hx W' BU wn' BX xM xO hW' hE=>by
    have:=IH x hx B BU wn' BX xM xO W' hE (by have:=hW.size;have:=hW'.size;omega)
    simpa using this
 have Pp:=ah Po;rw[e.WV];have hbw:=aj w (.cells (aU e.op ⟨e.name.toArray⟩ ⟨e.module.toArray⟩ (decide (e.num<0)) (.slice am wn cm) e.yes (.slice ae e.kids.length ce) e.at_) 46);have hN:=heap_alloc_new w (.cells (aU e.op ⟨e.name.toArray⟩ ⟨e.module.toArray⟩ (decide (e.num<0)) (.slice am wn cm) e.yes (.slice ae e.kids.length ce) e.at_) 46);clear Po hkz h IH;generalize (e.kids.any PZ.D6)=an at *;have hop:(decide (e.op=4))=(e.op == 4):=rfl;rw[hop];clear hop;generalize e.op=op at *;generalize ho:(op == 4)=t;go_enter Tryz.func99,Tryz.ntmps99
 go_upto_region 1 with fail
 change Code.wp _ _ _ _ (w.alloc (.cells (aU op ⟨e.name.toArray⟩ ⟨e.module.toArray⟩ (decide (e.num<0)) (.slice am wn cm) e.yes (.slice ae e.kids.length ce) e.at_) 46));generalize w.alloc _=w1 at hbw hN ⊢;obtain⟨y0,y1,y2,y3,y4,y5,y6,y7⟩:=aG hN;have LM:=ah (Pp.out w1 hbw);clear hN Pp
 cases t with
 | true =>
  go_wp2;go_ret;exact⟨rfl,hbw⟩
 | false =>
  go_wp2_with (go_at_call 95;refine LM.out.mono ?_;rintro r w2 ⟨rfl,hb2⟩);go_ret;exact⟨rfl,hbw.trans (hb2.mono hbw.size)⟩
theorem D8:∀ (n:Nat) (e:PZ),SizeOf.sizeOf e<n→e.fit→Ox e
 | 0,_,h,_=>absurd h (by omega)
 | n+1,e,hs,hf=>Lm e (by have:=(PZ.o9 hf).2.2.2.1;omega) fun x hx=>D8 n x (by have:=e.iT x hx;omega) ((PZ.o9 hf).2.2.2.2 x hx)
def AU (x:PZ):Prop:=x.fit∧∃ c:PE,c.z=x∧c.size≤400000
theorem SH {x:PZ}(h:AU x):(bF x.bI).length≤400000:=by
 obtain⟨_,c,rfl,hz⟩:=h;rw[c.IL];have h1:=kY c.bI;have h2:=c.qL;omega
theorem SI (x:PZ)(hx:AU x)(Q:Nat→Prop)(names:List (List UInt8))(res:Bool)(B nb rb:Nat)(an:Option Addr)(cn:Nat)(w:World)(hB:B≤w.heap.size)
  (hnb:w.heap[nb]?=some (.cells #[.slice an names.length cn] 114 (0,0))) (hrb:w.cell? ⟨rb,0,none⟩=some (.bool res)) (hrl:rb<w.heap.size) (hn:bC Q w (.slice an names.length cn) names) (hr:names.Pairwise (· < ·)) (hln:names.length≤500000) :
  Va 96 #[.pointer (some ⟨nb,0,none⟩),.pointer (some ⟨rb,0,none⟩)] (fun x=>!Oq names res x) B w x:=by
 intro W am wn cm ak ck hW hE;have hs:=hW.size;have hnl:=SH hx;have hbx:=aj W (.cells (aU x.op ⟨x.name.toArray⟩ ⟨x.module.toArray⟩ (decide (x.num<0)) (.slice am wn cm) x.yes (.slice ak x.kids.length ck) x.at_) 46);have hN:=heap_alloc_new W (.cells (aU x.op ⟨x.name.toArray⟩ ⟨x.module.toArray⟩ (decide (x.num<0)) (.slice am wn cm) x.yes (.slice ak x.kids.length ck) x.at_) 46);have hlN:=(bG hnb).1;have HR:=ah (fun V (hV:Below W.heap.size W V)=>D8 _ x (Nat.lt_succ_self _) hx.1 B am wn cm ak ck V (hE.frame (aQ.of hV)) (by have:=hV.size;omega))
 have HF:Hid (∀ V,Below W.heap.size W V→Calls Tryz.prog 97 #[.agg #[.int .i64 x.op,.string ⟨x.name.toArray⟩,.string ⟨x.module.toArray⟩,.bool (decide (x.num<0)),.slice am wn cm,.bool x.yes,.slice ak x.kids.length ck,.int .i64 x.at_]] V (Iy x.bI V)):=ah fun V hV=>by
  obtain⟨_,c,hc,hz⟩:=hx;subst hc;rw[c.IL];have hE2:=kI.ofZ (hE.frame (aQ.of hV))
  have hk:c.z.kids.length=c.kids.length:=by cases c;rw[PE.z];show (EW _).length=_;rw[wV,List.length_map];rfl
  rw[hk] at hE2 ⊢;have:=SF c B am wn cm ak ck V hE2 (by have:=hV.size;omega) hz;cases c;exact this
 have HO:=ah (fun (P:Nat→Prop) v V (hv:bC P V v x.bI)=>Iw P v x.bI V hv (by
  obtain⟨_,c,rfl,hz⟩:=hx;rw[c.IL];have:=c.qL
  omega))
 have HW:=ah (fun (P:Nat→Prop) a c V (hv:bC P V (.slice a (bF x.bI).length c) (bF x.bI)) (hV:Below W.heap.size W V)=>Ou P Q a c an cn (bF x.bI) names V hv ((hn.below hW).below hV) hr (by omega) hln);have abu:=(hW.block nb hlN).trans hnb;have ac4:=(hW.cell (p:=⟨rb,0,none⟩) hrl).trans hrb;have ac5:Oq names res x=(decide (((bF x.bI).filter fun y=>decide (y∈names)).length=(bF x.bI).length) && (res || !x.D6)):=rfl
 show Calls _ _ #[_,_,_] _ fun r w'=>r=.returned (.bool (!Oq names res x))∧Below W.heap.size W w'
 rw[ac5];clear hE hn hx hnb hrb ac5 hr;generalize decide (((bF x.bI).filter fun y=>decide (y∈names)).length=(bF x.bI).length)=wi at *;generalize x.D6=rs at *;generalize x.bI=L at *;go_enter Tryz.func96,Tryz.ntmps96
 go_upto_region 1 with fail
 change Code.wp _ _ _ _ (W.alloc (.cells (aU x.op ⟨x.name.toArray⟩ ⟨x.module.toArray⟩ (decide (x.num<0)) (.slice am wn cm) x.yes (.slice ak x.kids.length ck) x.at_) 46));have hlW:=(bG abu).1
 have aeA:rb<W.heap.size:=by omega
 have hlx:=(bG hN).1;have abv:=(hbx.block nb hlW).trans abu;have abw:=(hbx.cell (p:=⟨rb,0,none⟩) aeA).trans ac4;clear abu ac4;generalize W.alloc _=w0 at hbx hN hlx abv abw ⊢;have hx8:=aG hN;have hset:=(aH abv).1;have hz0:=hbx.size;obtain⟨y0,y1,y2,y3,y4,y5,y6,y7⟩:=hx8
 have HS:Hid (∀ V,Below w0.heap.size w0 V→(V.cell? ⟨W.heap.size,0,none⟩=some (.int .i64 x.op)∧V.cell? ⟨W.heap.size,1,none⟩=some (.string ⟨x.name.toArray⟩)∧V.cell? ⟨W.heap.size,2,none⟩=some (.string ⟨x.module.toArray⟩)∧V.cell? ⟨W.heap.size,3,none⟩=some (.bool (decide (x.num<0)))∧V.cell? ⟨W.heap.size,4,none⟩=some (.slice am wn cm)∧V.cell? ⟨W.heap.size,5,none⟩=some (.bool x.yes)∧V.cell? ⟨W.heap.size,6,none⟩=some (.slice ak x.kids.length ck)∧V.cell? ⟨W.heap.size,7,none⟩=some (.int .i64 x.at_)∧V.cell? ⟨nb,0,none⟩=some (.slice an names.length cn)∧V.cell? ⟨rb,0,none⟩=some (.bool res))):=ah fun V hV=>⟨cell_later hV y0,cell_later hV y1,cell_later hV y2,cell_later hV y3,cell_later hV y4,cell_later hV y5,cell_later hV y6,cell_later hV y7,cell_later hV hset,cell_later hV abw⟩
 have p3:=HS.out w0.drew (Below.refl _ _).drew;have Sn:=ah (HF.out w0.drew hbx.drew);have dw:Below w0.heap.size w0 w0.drew:=(Below.refl _ _).drew;clear y0 y1 y2 y3 y4 y5 y6 y7 hset abw abv hN HF
 have fin:∀ (b:Bool) V,Below w0.heap.size w0 V→Below W.heap.size W V:=fun _ V hV=>hbx.trans (hV.mono hz0)
 cases wi with
 | false =>
  refine wp_region_held_drew (S:=(fun V=>V.cell? ⟨W.heap.size,0,none⟩=some (.int .i64 x.op)∧V.cell? ⟨W.heap.size,1,none⟩=some (.string ⟨x.name.toArray⟩)∧V.cell? ⟨W.heap.size,2,none⟩=some (.string ⟨x.module.toArray⟩)∧V.cell? ⟨W.heap.size,3,none⟩=some (.bool (decide (x.num<0)))∧V.cell? ⟨W.heap.size,4,none⟩=some (.slice am wn cm)∧V.cell? ⟨W.heap.size,5,none⟩=some (.bool x.yes)∧V.cell? ⟨W.heap.size,6,none⟩=some (.slice ak x.kids.length ck)∧V.cell? ⟨W.heap.size,7,none⟩=some (.int .i64 x.at_)∧V.cell? ⟨nb,0,none⟩=some (.slice an names.length cn)∧V.cell? ⟨rb,0,none⟩=some (.bool res))) (by kernel_rfl) p3 (fun hHeld=>?_);refine wpAnyH_take (i:=0) (oi:=⟨some 5,_,_,_,_,_⟩) (v:=?_) rfl (by kernel_rfl) (by kernel_rfl) (by kernel_rfl) (fun _ _ _ h=>h) (Or.inl ⟨by rfl,?_⟩) hHeld ?_
  rotate_left
  ·intro w hSw;(try dsimp only at hSw);go_simp;try (with_reducible rfl)
  simp only[Act.put,List.setIfInBounds_toArray,List.set_cons_zero,List.set_cons_succ];refine wpAnyH_take (i:=3) (oi:=⟨some 8,_,_,_,_,_⟩) (v:=?_) rfl (by kernel_rfl) (by kernel_rfl) (by kernel_rfl) (fun _ _ _ h=>h) (Or.inl ⟨by rfl,?_⟩) hHeld ?_
  rotate_left
  ·intro w hSw;(try dsimp only at hSw);go_simp;try (with_reducible rfl)
  simp only[Act.put,List.setIfInBounds_toArray,List.set_cons_zero,List.set_cons_succ];refine wpAnyH_ready (rs:=[1]) (by kernel_rfl) (by simp) (AllReadyH.cons (o:=⟨some 6,_,_,_,_,_⟩) rfl (fun K hK=>?_) AllReadyH.nil);go_simp;go_wp2_with (go_at_call 97;refine Sn.out.mono ?_;rintro e w2 ⟨a2,c2,rfl,hv2,hb2⟩;have D9:=dw.trans hb2;have HO2:=ah (HO.out _ _ w2 hv2));refine hK.out _ _ (HS.out w2 D9) (fun hHeld=>?_);clear hK K;refine wpAnyH_ready (rs:=[2]) (by kernel_rfl) (by simp) (AllReadyH.cons (o:=⟨some 7,_,_,_,_,_⟩) rfl (fun K hK=>?_) AllReadyH.nil);go_simp;go_wp2_with (go_at_call 93;refine HO2.out.mono ?_;rintro e w3 ⟨a3,c3,rfl,hv3,hb3⟩;have yj:=D9.trans (hb3.mono D9.size);have HW3:=ah (HW.out _ _ _ w3 hv3 (fin true _ yj)));refine hK.out _ _ (HS.out w3 yj) (fun hHeld=>?_);clear hK K;refine wpAnyH_ready (rs:=[4]) (by kernel_rfl) (by simp) (AllReadyH.cons (o:=⟨some 9,_,_,_,_,_⟩) rfl (fun K hK=>?_) AllReadyH.nil);go_simp;go_wp2_with (go_at_call 98;refine HW3.out.mono ?_;rintro e w4 ⟨rfl,hb4⟩;have EF:=yj.trans (hb4.mono yj.size));refine hK.out _ _ (HS.out w4 EF) (fun hHeld=>?_);clear hK K;refine wpAnyH_take (i:=5) (oi:=⟨some 10,_,_,_,_,_⟩) (v:=?_) rfl (by kernel_rfl) (by kernel_rfl) (by kernel_rfl) (fun _ _ _ h=>h) (Or.inl ⟨by rfl,?_⟩) hHeld ?_
  rotate_left
  ·intro w hSw;(try dsimp only at hSw);go_simp;try (with_reducible rfl)
  simp only[Act.put,List.setIfInBounds_toArray,List.set_cons_zero,List.set_cons_succ];refine wpAnyH_take (i:=6) (oi:=⟨some 11,_,_,_,_,_⟩) (v:=?_) rfl (by kernel_rfl) (by kernel_rfl) (by kernel_rfl) (fun _ _ _ h=>h) (Or.inl ⟨by rfl,?_⟩) hHeld ?_
  rotate_left
  ·intro w hSw;(try dsimp only at hSw);go_simp;try (with_reducible rfl)
  simp only[Act.put,List.setIfInBounds_toArray,List.set_cons_zero,List.set_cons_succ];refine wpAnyH_take (i:=7) (oi:=⟨some 12,_,_,_,_,_⟩) (v:=undef) rfl (by kernel_rfl) (by kernel_rfl) (by kernel_rfl) (fun _ _ _ h=>h) (Or.inr ⟨by rfl,rfl⟩) hHeld ?_;simp only[Act.put,List.setIfInBounds_toArray,List.set_cons_zero,List.set_cons_succ];refine wpAnyH_take (i:=8) (oi:=⟨some 13,_,_,_,_,_⟩) (v:=undef) rfl (by kernel_rfl) (by kernel_rfl) (by kernel_rfl) (fun _ _ _ h=>h) (Or.inr ⟨by rfl,rfl⟩) hHeld ?_;simp only[Act.put,List.setIfInBounds_toArray,List.set_cons_zero,List.set_cons_succ];refine wpAnyH_take (i:=9) (oi:=⟨some 14,_,_,_,_,_⟩) (v:=undef) rfl (by kernel_rfl) (by kernel_rfl) (by kernel_rfl) (fun _ _ _ h=>h) (Or.inr ⟨by rfl,rfl⟩) hHeld ?_;simp only[Act.put,List.setIfInBounds_toArray,List.set_cons_zero,List.set_cons_succ];refine wpAnyH_take (i:=10) (oi:=⟨some 15,_,_,_,_,_⟩) (v:=undef) rfl (by kernel_rfl) (by kernel_rfl) (by kernel_rfl) (fun _ _ _ h=>h) (Or.inr ⟨by rfl,rfl⟩) hHeld ?_;simp only[Act.put,List.setIfInBounds_toArray,List.set_cons_zero,List.set_cons_succ];refine wpAnyH_take (i:=11) (oi:=⟨some 16,_,_,_,_,_⟩) (v:=undef) rfl (by kernel_rfl) (by kernel_rfl) (by kernel_rfl) (fun _ _ _ h=>h) (Or.inr ⟨by rfl,rfl⟩) hHeld ?_;simp only[Act.put,List.setIfInBounds_toArray,List.set_cons_zero,List.set_cons_succ];refine wpAnyH_take (i:=12) (oi:=⟨some 17,_,_,_,_,_⟩) (v:=undef) rfl (by kernel_rfl) (by kernel_rfl) (by kernel_rfl) (fun _ _ _ h=>h) (Or.inr ⟨by rfl,rfl⟩) hHeld ?_;simp only[Act.put,List.setIfInBounds_toArray,List.set_cons_zero,List.set_cons_succ];refine wpAnyH_take (i:=13) (oi:=⟨some 18,_,_,_,_,_⟩) (v:=?_) rfl (by kernel_rfl) (by kernel_rfl) (by kernel_rfl) (fun _ _ _ h=>h) (Or.inl ⟨by rfl,?_⟩) hHeld ?_
  rotate_left
  ·intro w hSw;(try dsimp only at hSw);go_simp;try (with_reducible rfl)
  simp only[Act.put,List.setIfInBounds_toArray,List.set_cons_zero,List.set_cons_succ];refine wpAnyH_take (i:=14) (oi:=⟨some 4,_,_,_,_,_⟩) (v:=?_) rfl (by kernel_rfl) (by kernel_rfl) (by kernel_rfl) (fun _ _ _ h=>h) (Or.inl ⟨by rfl,?_⟩) hHeld ?_
  rotate_left
  ·intro w hSw;(try dsimp only at hSw);go_simp;try (with_reducible rfl)
  simp only[Act.put,List.setIfInBounds_toArray,List.set_cons_zero,List.set_cons_succ];refine wpAnyH_done (by kernel_rfl) ?_ _;clear hHeld;go_wp2;go_ret;exact⟨rfl,fin true _ EF⟩
 | true =>
 cases res with
 | true =>
  refine wp_region_held_drew (S:=(fun V=>V.cell? ⟨W.heap.size,0,none⟩=some (.int .i64 x.op)∧V.cell? ⟨W.heap.size,1,none⟩=some (.string ⟨x.name.toArray⟩)∧V.cell? ⟨W.heap.size,2,none⟩=some (.string ⟨x.module.toArray⟩)∧V.cell? ⟨W.heap.size,3,none⟩=some (.bool (decide (x.num<0)))∧V.cell? ⟨W.heap.size,4,none⟩=some (.slice am wn cm)∧V.cell? ⟨W.heap.size,5,none⟩=some (.bool x.yes)∧V.cell? ⟨W.heap.size,6,none⟩=some (.slice ak x.kids.length ck)∧V.cell? ⟨W.heap.size,7,none⟩=some (.int .i64 x.at_)∧V.cell? ⟨nb,0,none⟩=some (.slice an names.length cn)∧V.cell? ⟨rb,0,none⟩=some (.bool true))) (by kernel_rfl) p3 (fun hHeld=>?_);refine wpAnyH_take (i:=0) (oi:=⟨some 5,_,_,_,_,_⟩) (v:=?_) rfl (by kernel_rfl) (by kernel_rfl) (by kernel_rfl) (fun _ _ _ h=>h) (Or.inl ⟨by rfl,?_⟩) hHeld ?_
  rotate_left
  ·intro w hSw;(try dsimp only at hSw);go_simp;try (with_reducible rfl)
  simp only[Act.put,List.setIfInBounds_toArray,List.set_cons_zero,List.set_cons_succ];refine wpAnyH_take (i:=3) (oi:=⟨some 8,_,_,_,_,_⟩) (v:=?_) rfl (by kernel_rfl) (by kernel_rfl) (by kernel_rfl) (fun _ _ _ h=>h) (Or.inl ⟨by rfl,?_⟩) hHeld ?_
  rotate_left
  ·intro w hSw;(try dsimp only at hSw);go_simp;try (with_reducible rfl)
  simp only[Act.put,List.setIfInBounds_toArray,List.set_cons_zero,List.set_cons_succ];refine wpAnyH_ready (rs:=[1]) (by kernel_rfl) (by simp) (AllReadyH.cons (o:=⟨some 6,_,_,_,_,_⟩) rfl (fun K hK=>?_) AllReadyH.nil);go_simp;go_wp2_with (go_at_call 97;refine Sn.out.mono ?_;rintro e w2 ⟨a2,c2,rfl,hv2,hb2⟩;have D9:=dw.trans hb2;have HO2:=ah (HO.out _ _ w2 hv2));refine hK.out _ _ (HS.out w2 D9) (fun hHeld=>?_);clear hK K;refine wpAnyH_ready (rs:=[2]) (by kernel_rfl) (by simp) (AllReadyH.cons (o:=⟨some 7,_,_,_,_,_⟩) rfl (fun K hK=>?_) AllReadyH.nil);go_simp;go_wp2_with (go_at_call 93;refine HO2.out.mono ?_;rintro e w3 ⟨a3,c3,rfl,hv3,hb3⟩;have yj:=D9.trans (hb3.mono D9.size);have HW3:=ah (HW.out _ _ _ w3 hv3 (fin true _ yj)));refine hK.out _ _ (HS.out w3 yj) (fun hHeld=>?_);clear hK K;refine wpAnyH_ready (rs:=[4]) (by kernel_rfl) (by simp) (AllReadyH.cons (o:=⟨some 9,_,_,_,_,_⟩) rfl (fun K hK=>?_) AllReadyH.nil);go_simp;go_wp2_with (go_at_call 98;refine HW3.out.mono ?_;rintro e w4 ⟨rfl,hb4⟩;have EF:=yj.trans (hb4.mono yj.size));refine hK.out _ _ (HS.out w4 EF) (fun hHeld=>?_);clear hK K;refine wpAnyH_take (i:=5) (oi:=⟨some 10,_,_,_,_,_⟩) (v:=?_) rfl (by kernel_rfl) (by kernel_rfl) (by kernel_rfl) (fun _ _ _ h=>h) (Or.inl ⟨by rfl,?_⟩) hHeld ?_
  rotate_left
  ·intro w hSw;(try dsimp only at hSw);go_simp;try (with_reducible rfl)
  simp only[Act.put,List.setIfInBounds_toArray,List.set_cons_zero,List.set_cons_succ];refine wpAnyH_take (i:=6) (oi:=⟨some 11,_,_,_,_,_⟩) (v:=?_) rfl (by kernel_rfl) (by kernel_rfl) (by kernel_rfl) (fun _ _ _ h=>h) (Or.inl ⟨by rfl,?_⟩) hHeld ?_
  rotate_left
  ·intro w hSw;(try dsimp only at hSw);go_simp;try (with_reducible rfl)
  simp only[Act.put,List.setIfInBounds_toArray,List.set_cons_zero,List.set_cons_succ];refine wpAnyH_take (i:=7) (oi:=⟨some 12,_,_,_,_,_⟩) (v:=?_) rfl (by kernel_rfl) (by kernel_rfl) (by kernel_rfl) (fun _ _ _ h=>h) (Or.inl ⟨by rfl,?_⟩) hHeld ?_
  rotate_left
  ·intro w hSw;(try dsimp only at hSw);go_simp;try (with_reducible rfl)
  simp only[Act.put,List.setIfInBounds_toArray,List.set_cons_zero,List.set_cons_succ];refine wpAnyH_take (i:=8) (oi:=⟨some 13,_,_,_,_,_⟩) (v:=?_) rfl (by kernel_rfl) (by kernel_rfl) (by kernel_rfl) (fun _ _ _ h=>h) (Or.inl ⟨by rfl,?_⟩) hHeld ?_
  rotate_left
  ·intro w hSw;(try dsimp only at hSw);go_simp;try (with_reducible rfl)
  simp only[Act.put,List.setIfInBounds_toArray,List.set_cons_zero,List.set_cons_succ];refine wpAnyH_take (i:=9) (oi:=⟨some 14,_,_,_,_,_⟩) (v:=?_) rfl (by kernel_rfl) (by kernel_rfl) (by kernel_rfl) (fun _ _ _ h=>h) (Or.inl ⟨by rfl,?_⟩) hHeld ?_
  rotate_left
  ·intro w hSw;(try dsimp only at hSw);go_simp;try (with_reducible rfl)
  simp only[Act.put,List.setIfInBounds_toArray,List.set_cons_zero,List.set_cons_succ];refine wpAnyH_take (i:=10) (oi:=⟨some 15,_,_,_,_,_⟩) (v:=undef) rfl (by kernel_rfl) (by kernel_rfl) (by kernel_rfl) (fun _ _ _ h=>h) (Or.inr ⟨by rfl,rfl⟩) hHeld ?_;simp only[Act.put,List.setIfInBounds_toArray,List.set_cons_zero,List.set_cons_succ];refine wpAnyH_take (i:=11) (oi:=⟨some 16,_,_,_,_,_⟩) (v:=undef) rfl (by kernel_rfl) (by kernel_rfl) (by kernel_rfl) (fun _ _ _ h=>h) (Or.inr ⟨by rfl,rfl⟩) hHeld ?_;simp only[Act.put,List.setIfInBounds_toArray,List.set_cons_zero,List.set_cons_succ];refine wpAnyH_take (i:=12) (oi:=⟨some 17,_,_,_,_,_⟩) (v:=?_) rfl (by kernel_rfl) (by kernel_rfl) (by kernel_rfl) (fun _ _ _ h=>h) (Or.inl ⟨by rfl,?_⟩) hHeld ?_
  rotate_left
  ·intro w hSw;(try dsimp only at hSw);go_simp;try (with_reducible rfl)
  simp only[Act.put,List.setIfInBounds_toArray,List.set_cons_zero,List.set_cons_succ];refine wpAnyH_take (i:=13) (oi:=⟨some 18,_,_,_,_,_⟩) (v:=?_) rfl (by kernel_rfl) (by kernel_rfl) (by kernel_rfl) (fun _ _ _ h=>h) (Or.inl ⟨by rfl,?_⟩) hHeld ?_
  rotate_left
  ·intro w hSw;(try dsimp only at hSw);go_simp;try (with_reducible rfl)
  simp only[Act.put,List.setIfInBounds_toArray,List.set_cons_zero,List.set_cons_succ];refine wpAnyH_take (i:=14) (oi:=⟨some 4,_,_,_,_,_⟩) (v:=?_) rfl (by kernel_rfl) (by kernel_rfl) (by kernel_rfl) (fun _ _ _ h=>h) (Or.inl ⟨by rfl,?_⟩) hHeld ?_
  rotate_left
  ·intro w hSw;(try dsimp only at hSw);go_simp;try (with_reducible rfl)
  simp only[Act.put,List.setIfInBounds_toArray,List.set_cons_zero,List.set_cons_succ];refine wpAnyH_done (by kernel_rfl) ?_ _;clear hHeld;go_wp2;go_ret;exact⟨rfl,fin true _ EF⟩
 | false =>
  refine wp_region_held_drew (S:=(fun V=>V.cell? ⟨W.heap.size,0,none⟩=some (.int .i64 x.op)∧V.cell? ⟨W.heap.size,1,none⟩=some (.string ⟨x.name.toArray⟩)∧V.cell? ⟨W.heap.size,2,none⟩=some (.string ⟨x.module.toArray⟩)∧V.cell? ⟨W.heap.size,3,none⟩=some (.bool (decide (x.num<0)))∧V.cell? ⟨W.heap.size,4,none⟩=some (.slice am wn cm)∧V.cell? ⟨W.heap.size,5,none⟩=some (.bool x.yes)∧V.cell? ⟨W.heap.size,6,none⟩=some (.slice ak x.kids.length ck)∧V.cell? ⟨W.heap.size,7,none⟩=some (.int .i64 x.at_)∧V.cell? ⟨nb,0,none⟩=some (.slice an names.length cn)∧V.cell? ⟨rb,0,none⟩=some (.bool false))) (by kernel_rfl) p3 (fun hHeld=>?_);refine wpAnyH_take (i:=0) (oi:=⟨some 5,_,_,_,_,_⟩) (v:=?_) rfl (by kernel_rfl) (by kernel_rfl) (by kernel_rfl) (fun _ _ _ h=>h) (Or.inl ⟨by rfl,?_⟩) hHeld ?_
  rotate_left
  ·intro w hSw;(try dsimp only at hSw);go_simp;try (with_reducible rfl)
  simp only[Act.put,List.setIfInBounds_toArray,List.set_cons_zero,List.set_cons_succ];refine wpAnyH_take (i:=3) (oi:=⟨some 8,_,_,_,_,_⟩) (v:=?_) rfl (by kernel_rfl) (by kernel_rfl) (by kernel_rfl) (fun _ _ _ h=>h) (Or.inl ⟨by rfl,?_⟩) hHeld ?_
  rotate_left
  ·intro w hSw;(try dsimp only at hSw);go_simp;try (with_reducible rfl)
  simp only[Act.put,List.setIfInBounds_toArray,List.set_cons_zero,List.set_cons_succ];refine wpAnyH_ready (rs:=[1]) (by kernel_rfl) (by simp) (AllReadyH.cons (o:=⟨some 6,_,_,_,_,_⟩) rfl (fun K hK=>?_) AllReadyH.nil);go_simp;go_wp2_with (go_at_call 97;refine Sn.out.mono ?_;rintro e w2 ⟨a2,c2,rfl,hv2,hb2⟩;have D9:=dw.trans hb2;have HO2:=ah (HO.out _ _ w2 hv2));refine hK.out _ _ (HS.out w2 D9) (fun hHeld=>?_);clear hK K;refine wpAnyH_ready (rs:=[2]) (by kernel_rfl) (by simp) (AllReadyH.cons (o:=⟨some 7,_,_,_,_,_⟩) rfl (fun K hK=>?_) AllReadyH.nil);go_simp;go_wp2_with (go_at_call 93;refine HO2.out.mono ?_;rintro e w3 ⟨a3,c3,rfl,hv3,hb3⟩;have yj:=D9.trans (hb3.mono D9.size);have HW3:=ah (HW.out _ _ _ w3 hv3 (fin true _ yj)));refine hK.out _ _ (HS.out w3 yj) (fun hHeld=>?_);clear hK K;refine wpAnyH_ready (rs:=[4]) (by kernel_rfl) (by simp) (AllReadyH.cons (o:=⟨some 9,_,_,_,_,_⟩) rfl (fun K hK=>?_) AllReadyH.nil);go_simp;go_wp2_with (go_at_call 98;refine HW3.out.mono ?_;rintro e w4 ⟨rfl,hb4⟩;have EF:=yj.trans (hb4.mono yj.size));refine hK.out _ _ (HS.out w4 EF) (fun hHeld=>?_);clear hK K;refine wpAnyH_take (i:=5) (oi:=⟨some 10,_,_,_,_,_⟩) (v:=?_) rfl (by kernel_rfl) (by kernel_rfl) (by kernel_rfl) (fun _ _ _ h=>h) (Or.inl ⟨by rfl,?_⟩) hHeld ?_
  rotate_left
  ·intro w hSw;(try dsimp only at hSw);go_simp;try (with_reducible rfl)
  simp only[Act.put,List.setIfInBounds_toArray,List.set_cons_zero,List.set_cons_succ];refine wpAnyH_take (i:=6) (oi:=⟨some 11,_,_,_,_,_⟩) (v:=?_) rfl (by kernel_rfl) (by kernel_rfl) (by kernel_rfl) (fun _ _ _ h=>h) (Or.inl ⟨by rfl,?_⟩) hHeld ?_
  rotate_left
  ·intro w hSw;(try dsimp only at hSw);go_simp;try (with_reducible rfl)
  simp only[Act.put,List.setIfInBounds_toArray,List.set_cons_zero,List.set_cons_succ];refine wpAnyH_take (i:=7) (oi:=⟨some 12,_,_,_,_,_⟩) (v:=?_) rfl (by kernel_rfl) (by kernel_rfl) (by kernel_rfl) (fun _ _ _ h=>h) (Or.inl ⟨by rfl,?_⟩) hHeld ?_
  rotate_left
  ·intro w hSw;(try dsimp only at hSw);go_simp;try (with_reducible rfl)
  simp only[Act.put,List.setIfInBounds_toArray,List.set_cons_zero,List.set_cons_succ];refine wpAnyH_take (i:=8) (oi:=⟨some 13,_,_,_,_,_⟩) (v:=?_) rfl (by kernel_rfl) (by kernel_rfl) (by kernel_rfl) (fun _ _ _ h=>h) (Or.inl ⟨by rfl,?_⟩) hHeld ?_
  rotate_left
  ·intro w hSw;(try dsimp only at hSw);go_simp;try (with_reducible rfl)
  simp only[Act.put,List.setIfInBounds_toArray,List.set_cons_zero,List.set_cons_succ];refine wpAnyH_take (i:=9) (oi:=⟨some 14,_,_,_,_,_⟩) (v:=?_) rfl (by kernel_rfl) (by kernel_rfl) (by kernel_rfl) (fun _ _ _ h=>h) (Or.inl ⟨by rfl,?_⟩) hHeld ?_
  rotate_left
  ·intro w hSw;(try dsimp only at hSw);go_simp;try (with_reducible rfl)
  simp only[Act.put,List.setIfInBounds_toArray,List.set_cons_zero,List.set_cons_succ];refine wpAnyH_take (i:=10) (oi:=⟨some 15,_,_,_,_,_⟩) (v:=?_) rfl (by kernel_rfl) (by kernel_rfl) (by kernel_rfl) (fun _ _ _ h=>h) (Or.inl ⟨by rfl,?_⟩) hHeld ?_
  rotate_left
  ·intro w hSw;(try dsimp only at hSw);go_simp;try (with_reducible rfl)
  simp only[Act.put,List.setIfInBounds_toArray,List.set_cons_zero,List.set_cons_succ];refine wpAnyH_ready (rs:=[11]) (by kernel_rfl) (by simp) (AllReadyH.cons (o:=⟨some 16,_,_,_,_,_⟩) rfl (fun K hK=>?_) AllReadyH.nil);go_simp;go_wp2_with (go_at_call 99;refine(HR.out _ (fin true _ EF)).mono ?_;rintro e w5 ⟨rfl,hb5⟩;have ac6:=EF.trans (hb5.mono EF.size));refine hK.out _ _ (HS.out w5 ac6) (fun hHeld=>?_);clear hK K;refine wpAnyH_take (i:=12) (oi:=⟨some 17,_,_,_,_,_⟩) (v:=?_) rfl (by kernel_rfl) (by kernel_rfl) (by kernel_rfl) (fun _ _ _ h=>h) (Or.inl ⟨by rfl,?_⟩) hHeld ?_
  rotate_left
  ·intro w hSw;(try dsimp only at hSw);go_simp;try (with_reducible rfl)
  simp only[Act.put,List.setIfInBounds_toArray,List.set_cons_zero,List.set_cons_succ];refine wpAnyH_take (i:=13) (oi:=⟨some 18,_,_,_,_,_⟩) (v:=?_) rfl (by kernel_rfl) (by kernel_rfl) (by kernel_rfl) (fun _ _ _ h=>h) (Or.inl ⟨by rfl,?_⟩) hHeld ?_
  rotate_left
  ·intro w hSw;(try dsimp only at hSw);go_simp;try (with_reducible rfl)
  simp only[Act.put,List.setIfInBounds_toArray,List.set_cons_zero,List.set_cons_succ];refine wpAnyH_take (i:=14) (oi:=⟨some 4,_,_,_,_,_⟩) (v:=?_) rfl (by kernel_rfl) (by kernel_rfl) (by kernel_rfl) (fun _ _ _ h=>h) (Or.inl ⟨by rfl,?_⟩) hHeld ?_
  rotate_left
  ·intro w hSw;(try dsimp only at hSw);go_simp;try (with_reducible rfl)
  simp only[Act.put,List.setIfInBounds_toArray,List.set_cons_zero,List.set_cons_succ];refine wpAnyH_done (by kernel_rfl) ?_ _;clear hHeld;go_wp2;go_ret;exact⟨by cases rs<;>rfl,fin true _ ac6⟩
theorem Lp (base:Int)(cl:List PZ)(names:List (List UInt8))(res:Bool)(Q:Nat→Prop)(B:Nat)(ae:Option Addr)(ce:Nat)(an:Option Addr)(cn:Nat)(w:World)(h:jH B w ae cl)(hB:B≤w.heap.size)(hk:∀ x∈cl,AU x)(hkl:cl.length≤1000000)(ht:(gG base cl).length≤1099511627776)
  (hn:bC Q w (.slice an names.length cn) names) (hr:names.Pairwise (· < ·)) (hln:names.length≤500000) :
  Calls Tryz.prog 62 #[.int .i64 base,.slice ae cl.length ce,.agg #[.slice an names.length cn],.bool res] w fun r w'=>r=.returned (.bool (uW base cl names res))∧Below w.heap.size w w':=by
 have hmf:∀ (fn:Fn) (first cap:Array Value) (w:World),(Instr.makeFunc fn first cap).run Tryz.prog w=.ok (.func fn first cap) w:=fun _ _ _ _=>rfl
 have hal:=(aj w (.cells #[.slice an names.length cn] 114)).alloc (by simp) (.cells #[.bool res] 4);have hN:=(Lib.alloc_old (w.alloc (.cells #[.slice an names.length cn] 114)) (.cells #[.bool res] 4) w.heap.size (by simp)).trans (heap_alloc_new w (.cells #[.slice an names.length cn] 114));have hR:=heap_alloc_new (w.alloc (.cells #[.slice an names.length cn] 114)) (.cells #[.bool res] 4);rw[World.size_alloc] at hR
 have HK:∀ W,Below w.heap.size w W→jH B W ae cl:=fun W hW h0=>by
  obtain⟨b,off,q1,q2,q3,q4⟩:=h h0;refine⟨b,off,q1,q2,Nat.lt_of_lt_of_le q3 hW.size,fun i hi=>?_⟩;obtain⟨BU,wn',BX,xM,xO,q5,q6⟩:=q4 i hi;exact⟨BU,wn',BX,xM,xO,q5.frame (aQ.of hW),fun j u hu=>(hW.cell (p:=⟨b,off+i * 8+j,none⟩) q3).trans (q6 j u hu)⟩
 have HT:=ah (fun W (hW:Below w.heap.size w W)=>vV base cl B ae ce W (HK W hW) (by have:=hW.size;omega) (fun x hx=>(hk x hx).1) hkl ht)
 have HC:Hid (∀ W,Below w.heap.size w W→W.heap[w.heap.size]?=some (.cells #[.slice an names.length cn] 114 (0,0))→W.cell? ⟨w.heap.size+1,0,none⟩=some (.bool res)→w.heap.size+1<W.heap.size →
   Calls Tryz.prog 95 #[.slice ae cl.length ce,.func (.func 96) #[] #[.pointer (some ⟨w.heap.size,0,none⟩),.pointer (some ⟨w.heap.size+1,0,none⟩)]] W fun r w'=>r=.returned (.bool (cl.any fun c=>!Oq names res c))∧Below W.heap.size W w') :=
  ah fun W hW h1 h2 h3=>mD 96 #[.pointer (some ⟨w.heap.size,0,none⟩),.pointer (some ⟨w.heap.size+1,0,none⟩)] (fun c=>!Oq names res c) (enters_of Tryz.func96 (by kernel_rfl) rfl) B ae ce cl W (HK W hW) (by have:=hW.size;omega) (by omega)
   fun x hx=>SI x (hk x hx) Q names res B w.heap.size (w.heap.size+1) an cn W (by have:=hW.size;omega) h1 h2 h3 (hn.below hW) hr hln
 unfold uW;clear h HK hk hn hr ht;unfold qF at HT;generalize (cl.any fun c=>!Oq names res c)=an2 at *;generalize gF base cl=cb at *;generalize gG base cl=tt at *;go_enter Tryz.func62,Tryz.ntmps62
 go_upto_region 1 with fail
 change Code.wp _ _ _ _ ((w.alloc (.cells #[.slice an names.length cn] 114)).alloc (.cells #[.bool res] 4));generalize (w.alloc _).alloc _=w1 at hal hN hR ⊢;have hl1:=(bG hN).1;have hl2:=(bG hR).1;have hz1:=hal.size
 cases cb with
 | false =>
  go_wp2_with (go_at_call 49;refine(HT.out _ hal).mono ?_;rintro r w2 ⟨rfl,hb2⟩);go_ret;exact⟨rfl,hal.trans (hb2.mono hz1)⟩
 | true =>
  go_upto_region 2 with (go_at_call 49;refine(HT.out _ hal).mono ?_;rintro r w2 ⟨rfl,hb2⟩)
  have hbw2:=hal.trans (hb2.mono hz1);have hz2:=hb2.size;have Ee:=ah (HC.out w2 hbw2 ((hb2.block _ hl1).trans hN) (by rw[Lib.cell_of_heap ((hb2.block _ hl2).trans hR)];rfl) (by omega));clear HC HT;go_wp2_with (go_at_call 95;refine Ee.out.mono ?_;rintro r w3 ⟨rfl,hb3⟩);go_ret;exact⟨rfl,hbw2.trans (hb3.mono hbw2.size)⟩
structure ZF.known (f:ZF):Prop where
 name:f.name.length≤65536
 few:f.clause.length≤1000000
 cl:∀ x∈f.clause,AU x
 text:(gG f.base f.clause).length≤1099511627776
theorem jK {w:World}{b:Nat}{x y z:Value}(h:w.heap[b]?=some (.cells #[x,y,z] 96 (0,0))):w.cell? ⟨b,0,none⟩=some x∧w.cell? ⟨b,1,none⟩=some y∧w.cell? ⟨b,2,none⟩=some z:=by
 refine⟨?_,?_,?_⟩<;>(rw[Lib.cell_of_heap h];rfl)
theorem Af (r:ZF)(ps:List ZF)(B:Nat)(ap:Option Addr)(cp:Nat)(ac:Option Addr)(cc:Nat)(w:World)(h:tY (fun b=>b<B) w (.slice ap ps.length cp) (.slice ac r.clause.length cc) ps r.clause)(hB:B≤w.heap.size)(hr:r.known)(hps:∀ f∈ps,f.known) :
  Calls Tryz.prog 35 #[.agg #[.string ⟨r.name.toArray⟩,.slice ap ps.length cp,.int .i64 r.base,.slice ac r.clause.length cc]] w fun e w'=>e=.returned (.bool (gX r.name ps r.base r.clause))∧Below w.heap.size w w':=by
 have hal:=aj w (.cells #[.string ⟨r.name.toArray⟩,.slice ap ps.length cp,.int .i64 r.base,.slice ac r.clause.length cc] 31);have hN:=heap_alloc_new w (.cells #[.string ⟨r.name.toArray⟩,.slice ap ps.length cp,.int .i64 r.base,.slice ac r.clause.length cc] 31);have hrn:=hr.name;have HP:=ah (fun V=>qV ⟨r.name.toArray⟩ V (by show r.name.toArray.size≤_;simp;omega));simp only at HP;obtain⟨hpr,hcr⟩:=h;obtain⟨ap',cp',hv,_,hform⟩:=hpr.form;simp only[Value.slice.injEq] at hv;obtain⟨rfl,-,rfl⟩:=hv;obtain⟨ac',cc',hv,hck⟩:=l6 hcr;simp only[Value.slice.injEq] at hv;obtain⟨rfl,-,rfl⟩:=hv;have HF:=ah hform;have HKR:=ah hcr;have HR:=ah hr;have HPS:=ah hps;unfold gX;clear hform hr hps hpr hcr hck
 obtain⟨rs,hrs⟩:∃ rs:Bool,rs=XT r.base r.clause [] ps:=⟨_,rfl⟩
 rw[← hrs];have WU:=ah hrs;clear hrs;obtain⟨rn,rb,rc,ra,rbr⟩:=r;simp only at *;generalize hpl:dK rn=pl at *;clear hpl;go_enter Tryz.func35,Tryz.ntmps35
 go_upto_region 1 with fail
 change Code.wp _ _ _ _ (w.alloc (.cells #[.string ⟨rn.toArray⟩,.slice ap ps.length cp,.int .i64 rb,.slice ac rc.length cc] 31));generalize w.alloc (.cells #[.string ⟨rn.toArray⟩,.slice ap ps.length cp,.int .i64 rb,.slice ac rc.length cc] 31)=w1 at hal hN ⊢;have hl1:=(bG hN).1;have hz1:=hal.size;obtain⟨⟨y0,y1,y2,y3⟩,-⟩:=fA hN;have HN:=ah hN;clear hN
 cases pl with
 | false =>
  go_wp2_with (go_at_call 48;refine(HP.out _).mono ?_;rintro r w2 ⟨rfl,hb2⟩);go_ret;exact⟨rfl,hal.trans (hb2.mono hz1)⟩
 | true =>
  by_cases h8:ps.length≤8
  ·have h8I:¬ (8:Int)<(ps.length:Int):=by omega
   have h8D:Hid (decide (ps.length≤8)=true):=ah (decide_eq_true h8)
   go_upto_region 3 with (go_at_call 48;refine(HP.out _).mono ?_;rintro r w2 ⟨rfl,hb2⟩;obtain⟨⟨z0,z1,z2,z3⟩,-⟩:=fA ((hb2.block _ hl1).trans HN.out))
   have hz2:=hb2.size;have yg:=hal.trans (hb2.mono hz1);have LV:=(hb2.block _ hl1).trans HN.out;have kW:=aj w2 (.cells #[.slice none 0 0] 114);have gv:=heap_alloc_new w2 (.cells #[.slice none 0 0] 114);have vg:=yg.trans (kW.mono yg.size);have KG:=(kW.block _ (by omega)).trans LV
   have hvl:w2.heap.size<(w2.alloc (.cells #[.slice none 0 0] 114)).heap.size:=by simp
   clear y0 y1 y2 y3 z0 z1 z2 z3
   go_upto_region 4 with fail
   change Code.wp _ _ _ _ (w2.alloc (.cells #[.slice none 0 0] 114));generalize w2.alloc (.cells #[.slice none 0 0] 114)=w3 at *;obtain⟨⟨y0,y1,y2,y3⟩,-⟩:=fA KG;have HN3:=ah KG;have HGV:=ah gv;have hz3:=vg.size
   have hwv:w.heap.size<w2.heap.size:=by omega
   generalize w2.heap.size=vb at *;clear KG gv LV kW yg HN;go_wp2;clear y0 y1 y2 y3
   go_loopw [5,19] (fun _ q wr=>∃ (k:Nat) (ab:Option Addr) (cb:Nat) (bd:List (List UInt8)),k≤ps.length∧q=.int .i64 k∧rs=XT rb rc bd (ps.drop k)∧wr.heap[vb]?=some (.cells #[.slice ab bd.length cb] 114 (0,0))∧bC (fun b=>b≠vb) wr (.slice ab bd.length cb) bd∧bd.Pairwise (· < ·)∧bd.length≤k∧Below w.heap.size w wr∧wr.heap[w.heap.size]?=some (.cells #[.string ⟨rn.toArray⟩,.slice ap ps.length cp,.int .i64 rb,.slice ac rc.length cc] 31 (0,0))) (fun _ q _=>ps.length - (intOf q).toNat)
   case atStart=>exact⟨0,none,0,[],Nat.zero_le _,rfl,by rw[WU.out];rfl,HGV.out,bC.nil _ _,List.Pairwise.nil,Nat.zero_le _,vg,HN3.out⟩
   case round =>
    obtain⟨k,ab,cb,bd,hk,rfl,hres,hvb,htr,hrr,hbk,hbl,hsg⟩:=hrel;have uU:=hbl.size;have hvr:=(bG hvb).1;have hsr:=(bG hsg).1;have rW:=ah hres;have HVB:=ah hvb;have Ti:=ah htr;have HRR:=ah hrr;have Tq:=ah hsg;clear hres hvb htr hrr hsg
    by_cases hlt:k<ps.length
    ·obtain⟨b,off,rfl,_,hbw,hcell⟩:=HF.out (by omega)
     obtain⟨cv,hcv,hc⟩:=hcell k hlt;have Oy:RowK (ZK YA) (fun b=>b<B) w cv ps[k].clause:=hcv;obtain⟨a2,c2,rfl,-⟩:=l6 Oy;have x0:=(hbl.cell (p:=⟨b,off+k * 3+0,none⟩) hbw).trans (hc 0 _ rfl);have x1:=(hbl.cell (p:=⟨b,off+k * 3+1,none⟩) hbw).trans (hc 1 _ rfl);have x2:=(hbl.cell (p:=⟨b,off+k * 3+2,none⟩) hbw).trans (hc 2 _ rfl);rw[Nat.add_zero] at x0;have hdr:ps.drop k=ps[k] :: ps.drop (k+1):=List.drop_eq_getElem_cons hlt;have hkn:=HPS.out _ (List.getElem_mem hlt)
     have nJ:(k:Int)<(ps.length:Int):=by omega
     have HDR:=ah hdr;have yD:=ah hkn;have HCV:=ah Oy;clear hc hcell hdr hkn hcv Oy;generalize ps[k]=f at *;obtain⟨pU,fb,fc,fa,fbr⟩:=f;simp only[bY] at x0 x1 x2 yD HCV;have hfl:=yD.out.name;simp only at hfl;have yu:Hid (rs=(dK pU && (!decide (pU∈bd) && (uW fb fc (bF (bd++[pU])) false && XT rb rc (bF (bd++[pU])) (ps.drop (k+1)))))):=ah (by rw[rW.out,HDR.out,XT]);have bq:=aj wr (.cells #[.string ⟨pU.toArray⟩,.int .i64 fb,.slice a2 fc.length c2] 96);have hN:=heap_alloc_new wr (.cells #[.string ⟨pU.toArray⟩,.int .i64 fb,.slice a2 fc.length c2] 96);clear rW HDR
     go_upto_region 7 with fail
     change Code.wp _ _ _ _ (wr.alloc (.cells #[.string ⟨pU.toArray⟩,.int .i64 fb,.slice a2 fc.length c2] 96));clear x0 x1 x2
     have hyl:wr.heap.size<(wr.alloc (.cells #[.string ⟨pU.toArray⟩,.int .i64 fb,.slice a2 fc.length c2] 96)).heap.size:=by simp
     generalize wr.alloc (.cells #[.string ⟨pU.toArray⟩,.int .i64 fb,.slice a2 fc.length c2] 96)=w5 at *;have Mr:=bq.size;have gv5:=(bq.block _ hvr).trans HVB.out;have gs5:=(bq.block _ hsr).trans Tq.out;have hT5:=Ti.out.below bq;have hb5:=hbl.trans (bq.mono uU);have HPF:=ah (fun V=>qV ⟨pU.toArray⟩ V (by show pU.toArray.size≤_;simp;omega));simp only at HPF;have HN5:=ah hN;have HV5:=ah gv5;have HS5:=ah gs5;have HT5:=ah hT5;obtain⟨y0,y1,y2⟩:=jK hN;generalize dK pU=py at *;clear hN gv5 gs5 hT5 HVB Ti Tq
     cases py with
     | false =>
      have HE:Hid (rs=false):=ah (by rw[yu.out];rfl);clear yu;go_wp2_with (go_at_call 48;refine(HPF.out _).mono ?_;rintro r w6 ⟨rfl,hb6⟩);go_ret;exact⟨by rw[HE.out,h8D.out];rfl,hb5.trans (hb6.mono hb5.size)⟩
     | true =>
      have HH:=ah (fun W (hW:Below w5.heap.size w5 W)=>xZ _ ab cb bd ⟨pU.toArray⟩ W (HT5.out.below hW) HRR.out (by omega));simp only at HH;have HW0:=ah (fun W (hW:Below w5.heap.size w5 W)=>DF (fun _=>True) ab cb (.slice (some ⟨W.heap.size,0,none⟩) 1 1) bd [pU] (W.alloc (.cells #[.string ⟨pU.toArray⟩] 9)) (((HT5.out.below hW).below (aj W _)).imp fun _ _ _=>trivial) (PS W pU) (by omega) (by simp));have hsl:=kY (bd++[pU]);rw[bP,List.length_singleton] at hsl;have HSR:=ah (tJ (bd++[pU]));generalize bF (bd++[pU])=S at *
      obtain⟨m,hm⟩:∃ m,m=decide (pU∈bd):=⟨_,rfl⟩
      rw[← hm] at HH yu;clear hm
      cases m with
      | true =>
       have HE:Hid (rs=false):=ah (by rw[yu.out];rfl);clear yu HW0;go_wp2_with (first|(go_at_call 48;refine(HPF.out _).mono ?_;rintro r w6 ⟨rfl,hb6⟩;obtain⟨v0,v1,v2⟩:=jK ((hb6.block _ hyl).trans HN5.out);obtain⟨u0,uz⟩:=aH ((hb6.block _ (by omega)).trans HV5.out))|(go_at_call 60;refine(HH.out _ hb6).mono ?_;rintro r w7 ⟨rfl,pI⟩));go_ret;exact⟨by rw[HE.out,h8D.out];rfl,hb5.trans ((hb6.trans (pI.mono hb6.size)).mono hb5.size)⟩
      | false =>
       go_upto_region 9 with (first|(go_at_call 48;refine(HPF.out _).mono ?_;rintro r w6 ⟨rfl,hb6⟩;obtain⟨v0,v1,v2⟩:=jK ((hb6.block _ hyl).trans HN5.out);obtain⟨u0,uz⟩:=aH ((hb6.block _ (by omega)).trans HV5.out))|(go_at_call 60;refine(HH.out _ hb6).mono ?_;rintro r w7 ⟨rfl,pI⟩))
       clear y0 y1 y2 v0 v1 v2 u0 uz;have SK:=hb6.trans (pI.mono hb6.size);have hz7:=SK.size;have gn7:=(SK.block _ hyl).trans HN5.out;obtain⟨v0,v1,v2⟩:=jK gn7;have gv7:=(SK.block _ (by omega)).trans HV5.out;have gs7:=(SK.block _ (by omega)).trans HS5.out;obtain⟨u0,uz⟩:=aH gv7;have HWx:=ah (HW0.out w7 SK);have jr:Below w7.heap.size w7 (w7.alloc (.cells #[.string ⟨pU.toArray⟩] 9)):=aj w7 _;have HV7:=ah gv7;have HN7:=ah gn7;have HS7:=ah gs7;clear gv7 gn7 gs7 HW0 HH HPF HN5 HT5 HV5 HS5
       have aeB:vb<w7.heap.size:=by omega
       go_upto_region 10 with (go_at_call 61;refine HWx.out.mono ?_;rintro e w9 ⟨a9,c9,rfl,ht9,Zt⟩;have WZ:=jr.trans (Zt.mono (by simp));have gv9:=(WZ.block _ aeB).trans HV7.out;have hfz:=(aH gv9).2;have hc0:=(aH gv9).1)
       have hw9:=hb5.trans ((SK.trans (WZ.mono hz7)).mono hb5.size);have hz9:=WZ.size;have gvF:=heap_setCell_same w9 vb 0 _ _ (.slice a9 S.length c9) gv9;have gnF:=(heap_setCell_other w9 ⟨vb,0,none⟩ wr.heap.size (.slice a9 S.length c9) (by show wr.heap.size≠vb;omega)).trans ((WZ.block _ (by omega)).trans HN7.out);have gsF:=(heap_setCell_other w9 ⟨vb,0,none⟩ w.heap.size (.slice a9 S.length c9) (by show w.heap.size≠vb;omega)).trans ((WZ.block _ (by omega)).trans HS7.out)
       have hTF:bC (fun b=>b≠vb) (w9.setCell ⟨vb,0,none⟩ (.slice a9 S.length c9)) (.slice a9 S.length c9) S:=(ht9.frame (aQ.set _ fun b hb=>by have:=jr.size;show b≠vb;omega)).imp fun b hb _=>by have:=jr.size;omega
       have hwF:Below w.heap.size w (w9.setCell ⟨vb,0,none⟩ (.slice a9 S.length c9)):=hw9.setCell (Nat.le_of_lt hwv) _
       have hzF:(w9.setCell ⟨vb,0,none⟩ (.slice a9 S.length c9)).heap.size=w9.heap.size:=by simp
       clear v0 v1 v2 u0 uz hfz hc0 gv9 ht9 HV7 HN7 HS7 HWx jr Zt;generalize w9.setCell ⟨vb,0,none⟩ (.slice a9 S.length c9)=wA at *;obtain⟨v0,v1,v2⟩:=jK gnF;obtain⟨u0,uz⟩:=aH gvF;have hsz:=hwF.size;obtain⟨a2',c2',hv2,hck⟩:=l6 (HCV.out.frame (aQ.sI hwF fun b hb=>by omega));simp only[Value.slice.injEq] at hv2;obtain⟨rfl,-,rfl⟩:=hv2;have HFI:=ah (Lp fb fc S false (fun b=>b≠vb) B a2 c2 a9 c9 wA hck (by omega) yD.out.cl yD.out.few yD.out.text hTF HSR.out (by omega));have HG:=ah (And.intro gvF (And.intro hTF gsF));have hvA:=(bG gvF).1;have hsA:=(bG gsF).1;clear hck gvF gnF gsF hTF;generalize uW fb fc S false=fi at *
       cases fi with
       | false =>
        have HE:Hid (rs=false):=ah (by rw[yu.out];rfl);clear yu;go_wp2_with (go_at_call 62;refine HFI.out.mono ?_;rintro r jR ⟨rfl,oL⟩);go_ret;exact⟨by rw[HE.out,h8D.out];rfl,hwF.trans (oL.mono hsz)⟩
       | true =>
        have HE:Hid (rs=XT rb rc S (ps.drop (k+1))):=ah (by rw[yu.out];rfl);clear yu;go_wp2_with (go_at_call 62;refine HFI.out.mono ?_;rintro r jR ⟨rfl,oL⟩)
        go_roundw
        case rel=>exact⟨k+1,a9,c9,S,by omega,by go_num,HE.out,(oL.block _ hvA).trans HG.out.1,HG.out.2.1.below oL,HSR.out,by omega,hwF.trans (oL.mono hsz),(oL.block _ hsA).trans HG.out.2.2⟩
        case measure=>simp[intOf];omega
    ·obtain rfl:k=ps.length:=by omega
     have nJ:decide ((ps.length:Int)<(ps.length:Int))=false:=decide_eq_false (by omega);have HE:Hid (rs=uW rb rc bd true):=ah (by rw[rW.out,List.drop_length];rfl);obtain⟨⟨y0,y1,y2,y3⟩,-⟩:=fA Tq.out;obtain⟨u0,uz⟩:=aH HVB.out;obtain⟨ac',cc',hv2,hck⟩:=l6 (HKR.out.frame (aQ.sI hbl fun b hb=>by omega));simp only[Value.slice.injEq] at hv2;obtain⟨rfl,-,rfl⟩:=hv2;have HRk:=HR.out;have HFI:=ah (Lp rb rc bd true (fun b=>b≠vb) B ac cc ab cb wr hck (by omega) HRk.cl HRk.few HRk.text Ti.out HRR.out (by omega));clear hck HRk Tq HVB Ti rW;generalize uW rb rc bd true=fi at *;go_wp2_with (go_at_call 62;refine HFI.out.mono ?_;rintro r jR ⟨rfl,oL⟩);go_ret;exact⟨by rw[HE.out,h8D.out];rfl,hbl.trans (oL.mono uU)⟩
  ·have h8I:(8:Int)<(ps.length:Int):=by omega
   have h8D:decide (ps.length≤8)=false:=decide_eq_false h8;have HD:=ah h8D;clear h8D;go_wp2_with (go_at_call 48;refine(HP.out _).mono ?_;rintro r w2 ⟨rfl,hb2⟩;obtain⟨⟨z0,z1,z2,z3⟩,-⟩:=fA ((hb2.block _ hl1).trans HN.out));go_ret;exact⟨by rw[HD.out];rfl,hal.trans (hb2.mono hz1)⟩
end Go.Proofs.YtknicmmigbhpcaaGreatDoor

namespace Go.Proofs.YtknicmmigbhpcaaGreatDoor
open Go.RowKit Go
mutual
def PE.ac7:PE→Prop
 | .mk op _ _ _ _ _ kids _=>op<100∧W9 kids
def W9:List PE→Prop
 | []=>True
 | e :: l=>e.ac7∧W9 l
end
theorem nO (a b:List UInt8):(ByteArray.mk a.toArray)++(ByteArray.mk b.toArray)=ByteArray.mk (a++b).toArray:=by
 apply ByteArray.ext
 simp
end Go.Proofs.YtknicmmigbhpcaaGreatDoor
