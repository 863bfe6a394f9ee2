/- Walks and plain laws: SigW1, MapPlain. -/
import Derived.Test.YtknicmmigbhpcaaGreatDoorB27
import Derived.Test.YtknicmmigbhpcaaGreatDoorB29
import Derived.BigGuard
set_option maxHeartbeats 16000000
set_option maxRecDepth 100000
set_option linter.unusedVariables false
set_option linter.unusedSimpArgs false
namespace Go.Proofs.YtknicmmigbhpcaaGreatDoor
open Go.RowKit Go Go.Sort
def OC (e:PZ):Prop:=∀ (B:Nat) (am:Option Addr) (wn cm:Nat) (ae:Option Addr) (ce:Nat) (w:World),oI YA (fun b=>b<B) w (.slice am wn cm) (.slice ae e.kids.length ce) e→B≤w.heap.size →
 Calls Tryz.prog 99 #[.agg #[.int .i64 e.op,.string ⟨e.name.toArray⟩,.string ⟨e.module.toArray⟩,.bool (decide (e.num<0)),.slice am wn cm,.bool e.yes,.slice ae e.kids.length ce,.int .i64 e.at_]] w fun r w'=>r=.returned (.bool e.DJ)∧Below w.heap.size w w'
theorem Ll (e:PZ)(hl:e.kids.length≤1099511627776)(IH:∀ x∈e.kids,OC x):OC e:=by
 intro B am wn cm ae ce w h hB;have hkz:=h.Vo
 have PI:=fun (W:World) (hW:Below w.heap.size w W)=>mo 99 #[] PZ.DJ (enters_of Tryz.func99 (by kernel_rfl) rfl) B ae ce e.kids W (fun h0=>by
   obtain⟨b,off,q1,q2,q3,q4⟩:=hkz h0;refine⟨b,off,q1,q2,Nat.lt_of_lt_of_le q3 hW.size,fun i hi=>?_⟩;obtain⟨Eo,wn',Ep,xP,xQ,q5,q6⟩:=q4 i hi
   exact⟨Eo,wn',Ep,xP,xQ,q5.frame (aQ.of hW),fun j u hu=>(hW.cell (p:=⟨b,off+i * 8+j,none⟩) q3).trans (q6 j u hu)⟩) (by have:=hW.size;omega) hl fun x hx W' Eo wn' Ep xP xQ hW' hE=>by
    have:=IH x hx B Eo wn' Ep xP xQ W' hE (by have:=hW.size;have:=hW'.size;omega)
    simpa using this
 have PK:=ah PI;rw[e.WE];have hbw:=aj w (.cells (aU e.op ⟨e.name.toArray⟩ ⟨e.module.toArray⟩ (decide (e.num<0)) (.slice am wn cm) e.yes (.slice ae e.kids.length ce) e.at_) 46);have hN:=heap_alloc_new w (.cells (aU e.op ⟨e.name.toArray⟩ ⟨e.module.toArray⟩ (decide (e.num<0)) (.slice am wn cm) e.yes (.slice ae e.kids.length ce) e.at_) 46);clear PI hkz h IH;generalize (e.kids.any PZ.DJ)=an at *;have hop:(decide (e.op=4))=(e.op == 4):=rfl;rw[hop];clear hop;generalize e.op=op at *;generalize ho:(op == 4)=t;go_enter Tryz.func99,Tryz.ntmps99
 go_upto_region 1 with fail
 change Code.wp _ _ _ _ (w.alloc (.cells (aU op ⟨e.name.toArray⟩ ⟨e.module.toArray⟩ (decide (e.num<0)) (.slice am wn cm) e.yes (.slice ae e.kids.length ce) e.at_) 46));generalize w.alloc _=w1 at hbw hN ⊢;obtain⟨y0,y1,y2,y3,y4,y5,y6,y7⟩:=aG hN;have L6:=ah (PK.out w1 hbw);clear hN PK
 cases t with
 | true =>
  go_wp2;go_ret;exact⟨rfl,hbw⟩
 | false =>
  go_wp2_with (go_at_call 95;refine L6.out.mono ?_;rintro r w2 ⟨rfl,hb2⟩);go_ret;exact⟨rfl,hbw.trans (hb2.mono hbw.size)⟩
theorem DU:∀ (n:Nat) (e:PZ),SizeOf.sizeOf e<n→e.fit→OC e
 | 0,_,h,_=>absurd h (by omega)
 | n+1,e,hs,hf=>Ll e (by have:=(PZ.pq hf).2.2.2.1;omega) fun x hx=>DU n x (by have:=e.iY x hx;omega) ((PZ.pq hf).2.2.2.2 x hx)
def AZ (x:PZ):Prop:=x.fit∧∃ c:PE,c.z=x∧c.size≤400000
theorem SF {x:PZ}(h:AZ x):(bF x.bI).length≤400000:=by
 obtain⟨_,c,rfl,hz⟩:=h;rw[c.IV];have h1:=kK c.bI;have h2:=c.qJ;omega
theorem SH (x:PZ)(hx:AZ x)(Q:Nat→Prop)(names:List (List UInt8))(res:Bool)(B nb rb:Nat)(an:Option Addr)(cn:Nat)(w:World)(hB:B≤w.heap.size)
  (hnb:w.heap[nb]?=some (.cells #[.slice an names.length cn] 114 (0,0))) (hrb:w.cell? ⟨rb,0,none⟩=some (.bool res)) (hrl:rb<w.heap.size) (hn:bJ Q w (.slice an names.length cn) names) (hr:names.Pairwise (· < ·)) (hln:names.length≤500000) :
  Vp 96 #[.pointer (some ⟨nb,0,none⟩),.pointer (some ⟨rb,0,none⟩)] (fun x=>!Oq names res x) B w x:=by
 intro W am wn cm ak ck hW hE;have hs:=hW.size;have hnl:=SF hx;have hbx:=aj W (.cells (aU x.op ⟨x.name.toArray⟩ ⟨x.module.toArray⟩ (decide (x.num<0)) (.slice am wn cm) x.yes (.slice ak x.kids.length ck) x.at_) 46);have hN:=heap_alloc_new W (.cells (aU x.op ⟨x.name.toArray⟩ ⟨x.module.toArray⟩ (decide (x.num<0)) (.slice am wn cm) x.yes (.slice ak x.kids.length ck) x.at_) 46);have hlN:=(bG hnb).1;have HR:=ah (fun V (hV:Below W.heap.size W V)=>DU _ x (Nat.lt_succ_self _) hx.1 B am wn cm ak ck V (hE.frame (aQ.of hV)) (by have:=hV.size;omega))
 have HF:Hid (∀ V,Below W.heap.size W V→Calls Tryz.prog 97 #[.agg #[.int .i64 x.op,.string ⟨x.name.toArray⟩,.string ⟨x.module.toArray⟩,.bool (decide (x.num<0)),.slice am wn cm,.bool x.yes,.slice ak x.kids.length ck,.int .i64 x.at_]] V (IX x.bI V)):=ah fun V hV=>by
  obtain⟨_,c,hc,hz⟩:=hx;subst hc;rw[c.IV];have hE2:=kJ.ofZ (hE.frame (aQ.of hV))
  have hk:c.z.kids.length=c.kids.length:=by cases c;rw[PE.z];show (Fg _).length=_;rw[wW,List.length_map];rfl
  rw[hk] at hE2 ⊢;have:=SB c B am wn cm ak ck V hE2 (by have:=hV.size;omega) hz;cases c;exact this
 have HO:=ah (fun (P:Nat→Prop) v V (hv:bJ P V v x.bI)=>IW P v x.bI V hv (by
  obtain⟨_,c,rfl,hz⟩:=hx;rw[c.IV];have:=c.qJ
  omega))
 have HW:=ah (fun (P:Nat→Prop) a c V (hv:bJ P V (.slice a (bF x.bI).length c) (bF x.bI)) (hV:Below W.heap.size W V)=>Oz P Q a c an cn (bF x.bI) names V hv ((hn.below hW).below hV) hr (by omega) hln);have abo:=(hW.block nb hlN).trans hnb;have ac6:=(hW.cell (p:=⟨rb,0,none⟩) hrl).trans hrb;have ac7:Oq names res x=(decide (((bF x.bI).filter fun y=>decide (y∈names)).length=(bF x.bI).length) && (res || !x.DJ)):=rfl
 show Calls _ _ #[_,_,_] _ fun r w'=>r=.returned (.bool (!Oq names res x))∧Below W.heap.size W w'
 rw[ac7];clear hE hn hx hnb hrb ac7 hr;generalize decide (((bF x.bI).filter fun y=>decide (y∈names)).length=(bF x.bI).length)=wi at *;generalize x.DJ=rs at *;generalize x.bI=L at *;go_enter Tryz.func96,Tryz.ntmps96
 go_upto_region 1 with fail
 change Code.wp _ _ _ _ (W.alloc (.cells (aU x.op ⟨x.name.toArray⟩ ⟨x.module.toArray⟩ (decide (x.num<0)) (.slice am wn cm) x.yes (.slice ak x.kids.length ck) x.at_) 46));have hlW:=(bG abo).1
 have aeo:rb<W.heap.size:=by omega
 have hlx:=(bG hN).1;have abp:=(hbx.block nb hlW).trans abo;have abq:=(hbx.cell (p:=⟨rb,0,none⟩) aeo).trans ac6;clear abo ac6;generalize W.alloc _=w0 at hbx hN hlx abp abq ⊢;have hx8:=aG hN;have hset:=(aH abp).1;have hz0:=hbx.size;obtain⟨y0,y1,y2,y3,y4,y5,y6,y7⟩:=hx8
 have HS:Hid (∀ V,Below w0.heap.size w0 V→(V.cell? ⟨W.heap.size,0,none⟩=some (.int .i64 x.op)∧V.cell? ⟨W.heap.size,1,none⟩=some (.string ⟨x.name.toArray⟩)∧V.cell? ⟨W.heap.size,2,none⟩=some (.string ⟨x.module.toArray⟩)∧V.cell? ⟨W.heap.size,3,none⟩=some (.bool (decide (x.num<0)))∧V.cell? ⟨W.heap.size,4,none⟩=some (.slice am wn cm)∧V.cell? ⟨W.heap.size,5,none⟩=some (.bool x.yes)∧V.cell? ⟨W.heap.size,6,none⟩=some (.slice ak x.kids.length ck)∧V.cell? ⟨W.heap.size,7,none⟩=some (.int .i64 x.at_)∧V.cell? ⟨nb,0,none⟩=some (.slice an names.length cn)∧V.cell? ⟨rb,0,none⟩=some (.bool res))):=ah fun V hV=>⟨cell_later hV y0,cell_later hV y1,cell_later hV y2,cell_later hV y3,cell_later hV y4,cell_later hV y5,cell_later hV y6,cell_later hV y7,cell_later hV hset,cell_later hV abq⟩
 have p3:=HS.out w0.drew (Below.refl _ _).drew;have SC:=ah (HF.out w0.drew hbx.drew);have dw:Below w0.heap.size w0 w0.drew:=(Below.refl _ _).drew;clear y0 y1 y2 y3 y4 y5 y6 y7 hset abq abp hN HF
 have fin:∀ (b:Bool) V,Below w0.heap.size w0 V→Below W.heap.size W V:=fun _ V hV=>hbx.trans (hV.mono hz0)
 cases wi with
 | false =>
  refine wp_region_held_drew (S:=(fun V=>V.cell? ⟨W.heap.size,0,none⟩=some (.int .i64 x.op)∧V.cell? ⟨W.heap.size,1,none⟩=some (.string ⟨x.name.toArray⟩)∧V.cell? ⟨W.heap.size,2,none⟩=some (.string ⟨x.module.toArray⟩)∧V.cell? ⟨W.heap.size,3,none⟩=some (.bool (decide (x.num<0)))∧V.cell? ⟨W.heap.size,4,none⟩=some (.slice am wn cm)∧V.cell? ⟨W.heap.size,5,none⟩=some (.bool x.yes)∧V.cell? ⟨W.heap.size,6,none⟩=some (.slice ak x.kids.length ck)∧V.cell? ⟨W.heap.size,7,none⟩=some (.int .i64 x.at_)∧V.cell? ⟨nb,0,none⟩=some (.slice an names.length cn)∧V.cell? ⟨rb,0,none⟩=some (.bool res))) (by kernel_rfl) p3 (fun hHeld=>?_);refine wpAnyH_take (i:=0) (oi:=⟨some 5,_,_,_,_,_⟩) (v:=?_) rfl (by kernel_rfl) (by kernel_rfl) (by kernel_rfl) (fun _ _ _ h=>h) (Or.inl ⟨by rfl,?_⟩) hHeld ?_
  rotate_left
  ·intro w hSw;(try dsimp only at hSw);go_simp;try (with_reducible rfl)
  simp only[Act.put,List.setIfInBounds_toArray,List.set_cons_zero,List.set_cons_succ];refine wpAnyH_take (i:=3) (oi:=⟨some 8,_,_,_,_,_⟩) (v:=?_) rfl (by kernel_rfl) (by kernel_rfl) (by kernel_rfl) (fun _ _ _ h=>h) (Or.inl ⟨by rfl,?_⟩) hHeld ?_
  rotate_left
  ·intro w hSw;(try dsimp only at hSw);go_simp;try (with_reducible rfl)
  simp only[Act.put,List.setIfInBounds_toArray,List.set_cons_zero,List.set_cons_succ];refine wpAnyH_ready (rs:=[1]) (by kernel_rfl) (by simp) (AllReadyH.cons (o:=⟨some 6,_,_,_,_,_⟩) rfl (fun K hK=>?_) AllReadyH.nil);go_simp;go_wp2_with (go_at_call 97;refine SC.out.mono ?_;rintro e w2 ⟨a2,c2,rfl,hv2,hb2⟩;have DW:=dw.trans hb2;have HO2:=ah (HO.out _ _ w2 hv2));refine hK.out _ _ (HS.out w2 DW) (fun hHeld=>?_);clear hK K;refine wpAnyH_ready (rs:=[2]) (by kernel_rfl) (by simp) (AllReadyH.cons (o:=⟨some 7,_,_,_,_,_⟩) rfl (fun K hK=>?_) AllReadyH.nil);go_simp;go_wp2_with (go_at_call 93;refine HO2.out.mono ?_;rintro e w3 ⟨a3,c3,rfl,hv3,hb3⟩;have yu:=DW.trans (hb3.mono DW.size);have HW3:=ah (HW.out _ _ _ w3 hv3 (fin true _ yu)));refine hK.out _ _ (HS.out w3 yu) (fun hHeld=>?_);clear hK K;refine wpAnyH_ready (rs:=[4]) (by kernel_rfl) (by simp) (AllReadyH.cons (o:=⟨some 9,_,_,_,_,_⟩) rfl (fun K hK=>?_) AllReadyH.nil);go_simp;go_wp2_with (go_at_call 98;refine HW3.out.mono ?_;rintro e w4 ⟨rfl,hb4⟩;have EI:=yu.trans (hb4.mono yu.size));refine hK.out _ _ (HS.out w4 EI) (fun hHeld=>?_);clear hK K;refine wpAnyH_take (i:=5) (oi:=⟨some 10,_,_,_,_,_⟩) (v:=?_) rfl (by kernel_rfl) (by kernel_rfl) (by kernel_rfl) (fun _ _ _ h=>h) (Or.inl ⟨by rfl,?_⟩) hHeld ?_
  rotate_left
  ·intro w hSw;(try dsimp only at hSw);go_simp;try (with_reducible rfl)
  simp only[Act.put,List.setIfInBounds_toArray,List.set_cons_zero,List.set_cons_succ];refine wpAnyH_take (i:=6) (oi:=⟨some 11,_,_,_,_,_⟩) (v:=?_) rfl (by kernel_rfl) (by kernel_rfl) (by kernel_rfl) (fun _ _ _ h=>h) (Or.inl ⟨by rfl,?_⟩) hHeld ?_
  rotate_left
  ·intro w hSw;(try dsimp only at hSw);go_simp;try (with_reducible rfl)
  simp only[Act.put,List.setIfInBounds_toArray,List.set_cons_zero,List.set_cons_succ];refine wpAnyH_take (i:=7) (oi:=⟨some 12,_,_,_,_,_⟩) (v:=undef) rfl (by kernel_rfl) (by kernel_rfl) (by kernel_rfl) (fun _ _ _ h=>h) (Or.inr ⟨by rfl,rfl⟩) hHeld ?_;simp only[Act.put,List.setIfInBounds_toArray,List.set_cons_zero,List.set_cons_succ];refine wpAnyH_take (i:=8) (oi:=⟨some 13,_,_,_,_,_⟩) (v:=undef) rfl (by kernel_rfl) (by kernel_rfl) (by kernel_rfl) (fun _ _ _ h=>h) (Or.inr ⟨by rfl,rfl⟩) hHeld ?_;simp only[Act.put,List.setIfInBounds_toArray,List.set_cons_zero,List.set_cons_succ];refine wpAnyH_take (i:=9) (oi:=⟨some 14,_,_,_,_,_⟩) (v:=undef) rfl (by kernel_rfl) (by kernel_rfl) (by kernel_rfl) (fun _ _ _ h=>h) (Or.inr ⟨by rfl,rfl⟩) hHeld ?_;simp only[Act.put,List.setIfInBounds_toArray,List.set_cons_zero,List.set_cons_succ];refine wpAnyH_take (i:=10) (oi:=⟨some 15,_,_,_,_,_⟩) (v:=undef) rfl (by kernel_rfl) (by kernel_rfl) (by kernel_rfl) (fun _ _ _ h=>h) (Or.inr ⟨by rfl,rfl⟩) hHeld ?_;simp only[Act.put,List.setIfInBounds_toArray,List.set_cons_zero,List.set_cons_succ];refine wpAnyH_take (i:=11) (oi:=⟨some 16,_,_,_,_,_⟩) (v:=undef) rfl (by kernel_rfl) (by kernel_rfl) (by kernel_rfl) (fun _ _ _ h=>h) (Or.inr ⟨by rfl,rfl⟩) hHeld ?_;simp only[Act.put,List.setIfInBounds_toArray,List.set_cons_zero,List.set_cons_succ];refine wpAnyH_take (i:=12) (oi:=⟨some 17,_,_,_,_,_⟩) (v:=undef) rfl (by kernel_rfl) (by kernel_rfl) (by kernel_rfl) (fun _ _ _ h=>h) (Or.inr ⟨by rfl,rfl⟩) hHeld ?_;simp only[Act.put,List.setIfInBounds_toArray,List.set_cons_zero,List.set_cons_succ];refine wpAnyH_take (i:=13) (oi:=⟨some 18,_,_,_,_,_⟩) (v:=?_) rfl (by kernel_rfl) (by kernel_rfl) (by kernel_rfl) (fun _ _ _ h=>h) (Or.inl ⟨by rfl,?_⟩) hHeld ?_
  rotate_left
  ·intro w hSw;(try dsimp only at hSw);go_simp;try (with_reducible rfl)
  simp only[Act.put,List.setIfInBounds_toArray,List.set_cons_zero,List.set_cons_succ];refine wpAnyH_take (i:=14) (oi:=⟨some 4,_,_,_,_,_⟩) (v:=?_) rfl (by kernel_rfl) (by kernel_rfl) (by kernel_rfl) (fun _ _ _ h=>h) (Or.inl ⟨by rfl,?_⟩) hHeld ?_
  rotate_left
  ·intro w hSw;(try dsimp only at hSw);go_simp;try (with_reducible rfl)
  simp only[Act.put,List.setIfInBounds_toArray,List.set_cons_zero,List.set_cons_succ];refine wpAnyH_done (by kernel_rfl) ?_ _;clear hHeld;go_wp2;go_ret;exact⟨rfl,fin true _ EI⟩
 | true =>
 cases res with
 | true =>
  refine wp_region_held_drew (S:=(fun V=>V.cell? ⟨W.heap.size,0,none⟩=some (.int .i64 x.op)∧V.cell? ⟨W.heap.size,1,none⟩=some (.string ⟨x.name.toArray⟩)∧V.cell? ⟨W.heap.size,2,none⟩=some (.string ⟨x.module.toArray⟩)∧V.cell? ⟨W.heap.size,3,none⟩=some (.bool (decide (x.num<0)))∧V.cell? ⟨W.heap.size,4,none⟩=some (.slice am wn cm)∧V.cell? ⟨W.heap.size,5,none⟩=some (.bool x.yes)∧V.cell? ⟨W.heap.size,6,none⟩=some (.slice ak x.kids.length ck)∧V.cell? ⟨W.heap.size,7,none⟩=some (.int .i64 x.at_)∧V.cell? ⟨nb,0,none⟩=some (.slice an names.length cn)∧V.cell? ⟨rb,0,none⟩=some (.bool true))) (by kernel_rfl) p3 (fun hHeld=>?_);refine wpAnyH_take (i:=0) (oi:=⟨some 5,_,_,_,_,_⟩) (v:=?_) rfl (by kernel_rfl) (by kernel_rfl) (by kernel_rfl) (fun _ _ _ h=>h) (Or.inl ⟨by rfl,?_⟩) hHeld ?_
  rotate_left
  ·intro w hSw;(try dsimp only at hSw);go_simp;try (with_reducible rfl)
  simp only[Act.put,List.setIfInBounds_toArray,List.set_cons_zero,List.set_cons_succ];refine wpAnyH_take (i:=3) (oi:=⟨some 8,_,_,_,_,_⟩) (v:=?_) rfl (by kernel_rfl) (by kernel_rfl) (by kernel_rfl) (fun _ _ _ h=>h) (Or.inl ⟨by rfl,?_⟩) hHeld ?_
  rotate_left
  ·intro w hSw;(try dsimp only at hSw);go_simp;try (with_reducible rfl)
  simp only[Act.put,List.setIfInBounds_toArray,List.set_cons_zero,List.set_cons_succ];refine wpAnyH_ready (rs:=[1]) (by kernel_rfl) (by simp) (AllReadyH.cons (o:=⟨some 6,_,_,_,_,_⟩) rfl (fun K hK=>?_) AllReadyH.nil);go_simp;go_wp2_with (go_at_call 97;refine SC.out.mono ?_;rintro e w2 ⟨a2,c2,rfl,hv2,hb2⟩;have DW:=dw.trans hb2;have HO2:=ah (HO.out _ _ w2 hv2));refine hK.out _ _ (HS.out w2 DW) (fun hHeld=>?_);clear hK K;refine wpAnyH_ready (rs:=[2]) (by kernel_rfl) (by simp) (AllReadyH.cons (o:=⟨some 7,_,_,_,_,_⟩) rfl (fun K hK=>?_) AllReadyH.nil);go_simp;go_wp2_with (go_at_call 93;refine HO2.out.mono ?_;rintro e w3 ⟨a3,c3,rfl,hv3,hb3⟩;have yu:=DW.trans (hb3.mono DW.size);have HW3:=ah (HW.out _ _ _ w3 hv3 (fin true _ yu)));refine hK.out _ _ (HS.out w3 yu) (fun hHeld=>?_);clear hK K;refine wpAnyH_ready (rs:=[4]) (by kernel_rfl) (by simp) (AllReadyH.cons (o:=⟨some 9,_,_,_,_,_⟩) rfl (fun K hK=>?_) AllReadyH.nil);go_simp;go_wp2_with (go_at_call 98;refine HW3.out.mono ?_;rintro e w4 ⟨rfl,hb4⟩;have EI:=yu.trans (hb4.mono yu.size));refine hK.out _ _ (HS.out w4 EI) (fun hHeld=>?_);clear hK K;refine wpAnyH_take (i:=5) (oi:=⟨some 10,_,_,_,_,_⟩) (v:=?_) rfl (by kernel_rfl) (by kernel_rfl) (by kernel_rfl) (fun _ _ _ h=>h) (Or.inl ⟨by rfl,?_⟩) hHeld ?_
  rotate_left
  ·intro w hSw;(try dsimp only at hSw);go_simp;try (with_reducible rfl)
  simp only[Act.put,List.setIfInBounds_toArray,List.set_cons_zero,List.set_cons_succ];refine wpAnyH_take (i:=6) (oi:=⟨some 11,_,_,_,_,_⟩) (v:=?_) rfl (by kernel_rfl) (by kernel_rfl) (by kernel_rfl) (fun _ _ _ h=>h) (Or.inl ⟨by rfl,?_⟩) hHeld ?_
  rotate_left
  ·intro w hSw;(try dsimp only at hSw);go_simp;try (with_reducible rfl)
  simp only[Act.put,List.setIfInBounds_toArray,List.set_cons_zero,List.set_cons_succ];refine wpAnyH_take (i:=7) (oi:=⟨some 12,_,_,_,_,_⟩) (v:=?_) rfl (by kernel_rfl) (by kernel_rfl) (by kernel_rfl) (fun _ _ _ h=>h) (Or.inl ⟨by rfl,?_⟩) hHeld ?_
  rotate_left
  ·intro w hSw;(try dsimp only at hSw);go_simp;try (with_reducible rfl)
  simp only[Act.put,List.setIfInBounds_toArray,List.set_cons_zero,List.set_cons_succ];refine wpAnyH_take (i:=8) (oi:=⟨some 13,_,_,_,_,_⟩) (v:=?_) rfl (by kernel_rfl) (by kernel_rfl) (by kernel_rfl) (fun _ _ _ h=>h) (Or.inl ⟨by rfl,?_⟩) hHeld ?_
  rotate_left
  ·intro w hSw;(try dsimp only at hSw);go_simp;try (with_reducible rfl)
  simp only[Act.put,List.setIfInBounds_toArray,List.set_cons_zero,List.set_cons_succ];refine wpAnyH_take (i:=9) (oi:=⟨some 14,_,_,_,_,_⟩) (v:=?_) rfl (by kernel_rfl) (by kernel_rfl) (by kernel_rfl) (fun _ _ _ h=>h) (Or.inl ⟨by rfl,?_⟩) hHeld ?_
  rotate_left
  ·intro w hSw;(try dsimp only at hSw);go_simp;try (with_reducible rfl)
  simp only[Act.put,List.setIfInBounds_toArray,List.set_cons_zero,List.set_cons_succ];refine wpAnyH_take (i:=10) (oi:=⟨some 15,_,_,_,_,_⟩) (v:=undef) rfl (by kernel_rfl) (by kernel_rfl) (by kernel_rfl) (fun _ _ _ h=>h) (Or.inr ⟨by rfl,rfl⟩) hHeld ?_;simp only[Act.put,List.setIfInBounds_toArray,List.set_cons_zero,List.set_cons_succ];refine wpAnyH_take (i:=11) (oi:=⟨some 16,_,_,_,_,_⟩) (v:=undef) rfl (by kernel_rfl) (by kernel_rfl) (by kernel_rfl) (fun _ _ _ h=>h) (Or.inr ⟨by rfl,rfl⟩) hHeld ?_;simp only[Act.put,List.setIfInBounds_toArray,List.set_cons_zero,List.set_cons_succ];refine wpAnyH_take (i:=12) (oi:=⟨some 17,_,_,_,_,_⟩) (v:=?_) rfl (by kernel_rfl) (by kernel_rfl) (by kernel_rfl) (fun _ _ _ h=>h) (Or.inl ⟨by rfl,?_⟩) hHeld ?_
  rotate_left
  ·intro w hSw;(try dsimp only at hSw);go_simp;try (with_reducible rfl)
  simp only[Act.put,List.setIfInBounds_toArray,List.set_cons_zero,List.set_cons_succ];refine wpAnyH_take (i:=13) (oi:=⟨some 18,_,_,_,_,_⟩) (v:=?_) rfl (by kernel_rfl) (by kernel_rfl) (by kernel_rfl) (fun _ _ _ h=>h) (Or.inl ⟨by rfl,?_⟩) hHeld ?_
  rotate_left
  ·intro w hSw;(try dsimp only at hSw);go_simp;try (with_reducible rfl)
  simp only[Act.put,List.setIfInBounds_toArray,List.set_cons_zero,List.set_cons_succ];refine wpAnyH_take (i:=14) (oi:=⟨some 4,_,_,_,_,_⟩) (v:=?_) rfl (by kernel_rfl) (by kernel_rfl) (by kernel_rfl) (fun _ _ _ h=>h) (Or.inl ⟨by rfl,?_⟩) hHeld ?_
  rotate_left
  ·intro w hSw;(try dsimp only at hSw);go_simp;try (with_reducible rfl)
  simp only[Act.put,List.setIfInBounds_toArray,List.set_cons_zero,List.set_cons_succ];refine wpAnyH_done (by kernel_rfl) ?_ _;clear hHeld;go_wp2;go_ret;exact⟨rfl,fin true _ EI⟩
 | false =>
  refine wp_region_held_drew (S:=(fun V=>V.cell? ⟨W.heap.size,0,none⟩=some (.int .i64 x.op)∧V.cell? ⟨W.heap.size,1,none⟩=some (.string ⟨x.name.toArray⟩)∧V.cell? ⟨W.heap.size,2,none⟩=some (.string ⟨x.module.toArray⟩)∧V.cell? ⟨W.heap.size,3,none⟩=some (.bool (decide (x.num<0)))∧V.cell? ⟨W.heap.size,4,none⟩=some (.slice am wn cm)∧V.cell? ⟨W.heap.size,5,none⟩=some (.bool x.yes)∧V.cell? ⟨W.heap.size,6,none⟩=some (.slice ak x.kids.length ck)∧V.cell? ⟨W.heap.size,7,none⟩=some (.int .i64 x.at_)∧V.cell? ⟨nb,0,none⟩=some (.slice an names.length cn)∧V.cell? ⟨rb,0,none⟩=some (.bool false))) (by kernel_rfl) p3 (fun hHeld=>?_);refine wpAnyH_take (i:=0) (oi:=⟨some 5,_,_,_,_,_⟩) (v:=?_) rfl (by kernel_rfl) (by kernel_rfl) (by kernel_rfl) (fun _ _ _ h=>h) (Or.inl ⟨by rfl,?_⟩) hHeld ?_
  rotate_left
  ·intro w hSw;(try dsimp only at hSw);go_simp;try (with_reducible rfl)
  simp only[Act.put,List.setIfInBounds_toArray,List.set_cons_zero,List.set_cons_succ];refine wpAnyH_take (i:=3) (oi:=⟨some 8,_,_,_,_,_⟩) (v:=?_) rfl (by kernel_rfl) (by kernel_rfl) (by kernel_rfl) (fun _ _ _ h=>h) (Or.inl ⟨by rfl,?_⟩) hHeld ?_
  rotate_left
  ·intro w hSw;(try dsimp only at hSw);go_simp;try (with_reducible rfl)
  simp only[Act.put,List.setIfInBounds_toArray,List.set_cons_zero,List.set_cons_succ];refine wpAnyH_ready (rs:=[1]) (by kernel_rfl) (by simp) (AllReadyH.cons (o:=⟨some 6,_,_,_,_,_⟩) rfl (fun K hK=>?_) AllReadyH.nil);go_simp;go_wp2_with (go_at_call 97;refine SC.out.mono ?_;rintro e w2 ⟨a2,c2,rfl,hv2,hb2⟩;have DW:=dw.trans hb2;have HO2:=ah (HO.out _ _ w2 hv2));refine hK.out _ _ (HS.out w2 DW) (fun hHeld=>?_);clear hK K;refine wpAnyH_ready (rs:=[2]) (by kernel_rfl) (by simp) (AllReadyH.cons (o:=⟨some 7,_,_,_,_,_⟩) rfl (fun K hK=>?_) AllReadyH.nil);go_simp;go_wp2_with (go_at_call 93;refine HO2.out.mono ?_;rintro e w3 ⟨a3,c3,rfl,hv3,hb3⟩;have yu:=DW.trans (hb3.mono DW.size);have HW3:=ah (HW.out _ _ _ w3 hv3 (fin true _ yu)));refine hK.out _ _ (HS.out w3 yu) (fun hHeld=>?_);clear hK K;refine wpAnyH_ready (rs:=[4]) (by kernel_rfl) (by simp) (AllReadyH.cons (o:=⟨some 9,_,_,_,_,_⟩) rfl (fun K hK=>?_) AllReadyH.nil);go_simp;go_wp2_with (go_at_call 98;refine HW3.out.mono ?_;rintro e w4 ⟨rfl,hb4⟩;have EI:=yu.trans (hb4.mono yu.size));refine hK.out _ _ (HS.out w4 EI) (fun hHeld=>?_);clear hK K;refine wpAnyH_take (i:=5) (oi:=⟨some 10,_,_,_,_,_⟩) (v:=?_) rfl (by kernel_rfl) (by kernel_rfl) (by kernel_rfl) (fun _ _ _ h=>h) (Or.inl ⟨by rfl,?_⟩) hHeld ?_
  rotate_left
  ·intro w hSw;(try dsimp only at hSw);go_simp;try (with_reducible rfl)
  simp only[Act.put,List.setIfInBounds_toArray,List.set_cons_zero,List.set_cons_succ];refine wpAnyH_take (i:=6) (oi:=⟨some 11,_,_,_,_,_⟩) (v:=?_) rfl (by kernel_rfl) (by kernel_rfl) (by kernel_rfl) (fun _ _ _ h=>h) (Or.inl ⟨by rfl,?_⟩) hHeld ?_
  rotate_left
  ·intro w hSw;(try dsimp only at hSw);go_simp;try (with_reducible rfl)
  simp only[Act.put,List.setIfInBounds_toArray,List.set_cons_zero,List.set_cons_succ];refine wpAnyH_take (i:=7) (oi:=⟨some 12,_,_,_,_,_⟩) (v:=?_) rfl (by kernel_rfl) (by kernel_rfl) (by kernel_rfl) (fun _ _ _ h=>h) (Or.inl ⟨by rfl,?_⟩) hHeld ?_
  rotate_left
  ·intro w hSw;(try dsimp only at hSw);go_simp;try (with_reducible rfl)
  simp only[Act.put,List.setIfInBounds_toArray,List.set_cons_zero,List.set_cons_succ];refine wpAnyH_take (i:=8) (oi:=⟨some 13,_,_,_,_,_⟩) (v:=?_) rfl (by kernel_rfl) (by kernel_rfl) (by kernel_rfl) (fun _ _ _ h=>h) (Or.inl ⟨by rfl,?_⟩) hHeld ?_
  rotate_left
  ·intro w hSw;(try dsimp only at hSw);go_simp;try (with_reducible rfl)
  simp only[Act.put,List.setIfInBounds_toArray,List.set_cons_zero,List.set_cons_succ];refine wpAnyH_take (i:=9) (oi:=⟨some 14,_,_,_,_,_⟩) (v:=?_) rfl (by kernel_rfl) (by kernel_rfl) (by kernel_rfl) (fun _ _ _ h=>h) (Or.inl ⟨by rfl,?_⟩) hHeld ?_
  rotate_left
  ·intro w hSw;(try dsimp only at hSw);go_simp;try (with_reducible rfl)
  simp only[Act.put,List.setIfInBounds_toArray,List.set_cons_zero,List.set_cons_succ];refine wpAnyH_take (i:=10) (oi:=⟨some 15,_,_,_,_,_⟩) (v:=?_) rfl (by kernel_rfl) (by kernel_rfl) (by kernel_rfl) (fun _ _ _ h=>h) (Or.inl ⟨by rfl,?_⟩) hHeld ?_
  rotate_left
  ·intro w hSw;(try dsimp only at hSw);go_simp;try (with_reducible rfl)
  simp only[Act.put,List.setIfInBounds_toArray,List.set_cons_zero,List.set_cons_succ];refine wpAnyH_ready (rs:=[11]) (by kernel_rfl) (by simp) (AllReadyH.cons (o:=⟨some 16,_,_,_,_,_⟩) rfl (fun K hK=>?_) AllReadyH.nil);go_simp;go_wp2_with (go_at_call 99;refine(HR.out _ (fin true _ EI)).mono ?_;rintro e w5 ⟨rfl,hb5⟩;have ac8:=EI.trans (hb5.mono EI.size));refine hK.out _ _ (HS.out w5 ac8) (fun hHeld=>?_);clear hK K;refine wpAnyH_take (i:=12) (oi:=⟨some 17,_,_,_,_,_⟩) (v:=?_) rfl (by kernel_rfl) (by kernel_rfl) (by kernel_rfl) (fun _ _ _ h=>h) (Or.inl ⟨by rfl,?_⟩) hHeld ?_
  rotate_left
  ·intro w hSw;(try dsimp only at hSw);go_simp;try (with_reducible rfl)
  simp only[Act.put,List.setIfInBounds_toArray,List.set_cons_zero,List.set_cons_succ];refine wpAnyH_take (i:=13) (oi:=⟨some 18,_,_,_,_,_⟩) (v:=?_) rfl (by kernel_rfl) (by kernel_rfl) (by kernel_rfl) (fun _ _ _ h=>h) (Or.inl ⟨by rfl,?_⟩) hHeld ?_
  rotate_left
  ·intro w hSw;(try dsimp only at hSw);go_simp;try (with_reducible rfl)
  simp only[Act.put,List.setIfInBounds_toArray,List.set_cons_zero,List.set_cons_succ];refine wpAnyH_take (i:=14) (oi:=⟨some 4,_,_,_,_,_⟩) (v:=?_) rfl (by kernel_rfl) (by kernel_rfl) (by kernel_rfl) (fun _ _ _ h=>h) (Or.inl ⟨by rfl,?_⟩) hHeld ?_
  rotate_left
  ·intro w hSw;(try dsimp only at hSw);go_simp;try (with_reducible rfl)
  simp only[Act.put,List.setIfInBounds_toArray,List.set_cons_zero,List.set_cons_succ];refine wpAnyH_done (by kernel_rfl) ?_ _;clear hHeld;go_wp2;go_ret;exact⟨by cases rs<;>rfl,fin true _ ac8⟩
theorem Lm (base:Int)(cl:List PZ)(names:List (List UInt8))(res:Bool)(Q:Nat→Prop)(B:Nat)(ae:Option Addr)(ce:Nat)(an:Option Addr)(cn:Nat)(w:World)(h:jI B w ae cl)(hB:B≤w.heap.size)(hk:∀ x∈cl,AZ x)(hkl:cl.length≤1000000)(ht:(gG base cl).length≤1099511627776)
  (hn:bJ Q w (.slice an names.length cn) names) (hr:names.Pairwise (· < ·)) (hln:names.length≤500000) :
  Calls Tryz.prog 62 #[.int .i64 base,.slice ae cl.length ce,.agg #[.slice an names.length cn],.bool res] w fun r w'=>r=.returned (.bool (uY base cl names res))∧Below w.heap.size w w':=by
 have hmf:∀ (fn:Fn) (first cap:Array Value) (w:World),(Instr.makeFunc fn first cap).run Tryz.prog w=.ok (.func fn first cap) w:=fun _ _ _ _=>rfl
 have hal:=(aj w (.cells #[.slice an names.length cn] 114)).alloc (by simp) (.cells #[.bool res] 4);have hN:=(Lib.alloc_old (w.alloc (.cells #[.slice an names.length cn] 114)) (.cells #[.bool res] 4) w.heap.size (by simp)).trans (heap_alloc_new w (.cells #[.slice an names.length cn] 114));have hR:=heap_alloc_new (w.alloc (.cells #[.slice an names.length cn] 114)) (.cells #[.bool res] 4);rw[World.size_alloc] at hR
 have HK:∀ W,Below w.heap.size w W→jI B W ae cl:=fun W hW h0=>by
  obtain⟨b,off,q1,q2,q3,q4⟩:=h h0;refine⟨b,off,q1,q2,Nat.lt_of_lt_of_le q3 hW.size,fun i hi=>?_⟩;obtain⟨Eo,wn',Ep,xP,xQ,q5,q6⟩:=q4 i hi;exact⟨Eo,wn',Ep,xP,xQ,q5.frame (aQ.of hW),fun j u hu=>(hW.cell (p:=⟨b,off+i * 8+j,none⟩) q3).trans (q6 j u hu)⟩
 have HT:=ah (fun W (hW:Below w.heap.size w W)=>vX base cl B ae ce W (HK W hW) (by have:=hW.size;omega) (fun x hx=>(hk x hx).1) hkl ht)
 have HC:Hid (∀ W,Below w.heap.size w W→W.heap[w.heap.size]?=some (.cells #[.slice an names.length cn] 114 (0,0))→W.cell? ⟨w.heap.size+1,0,none⟩=some (.bool res)→w.heap.size+1<W.heap.size →
   Calls Tryz.prog 95 #[.slice ae cl.length ce,.func (.func 96) #[] #[.pointer (some ⟨w.heap.size,0,none⟩),.pointer (some ⟨w.heap.size+1,0,none⟩)]] W fun r w'=>r=.returned (.bool (cl.any fun c=>!Oq names res c))∧Below W.heap.size W w') :=
  ah fun W hW h1 h2 h3=>mo 96 #[.pointer (some ⟨w.heap.size,0,none⟩),.pointer (some ⟨w.heap.size+1,0,none⟩)] (fun c=>!Oq names res c) (enters_of Tryz.func96 (by kernel_rfl) rfl) B ae ce cl W (HK W hW) (by have:=hW.size;omega) (by omega)
   fun x hx=>SH x (hk x hx) Q names res B w.heap.size (w.heap.size+1) an cn W (by have:=hW.size;omega) h1 h2 h3 (hn.below hW) hr hln
 unfold uY;clear h HK hk hn hr ht;unfold qE at HT;generalize (cl.any fun c=>!Oq names res c)=an2 at *;generalize gF base cl=cb at *;generalize gG base cl=tt at *;go_enter Tryz.func62,Tryz.ntmps62
 go_upto_region 1 with fail
 change Code.wp _ _ _ _ ((w.alloc (.cells #[.slice an names.length cn] 114)).alloc (.cells #[.bool res] 4));generalize (w.alloc _).alloc _=w1 at hal hN hR ⊢;have hl1:=(bG hN).1;have hl2:=(bG hR).1;have hz1:=hal.size
 cases cb with
 | false =>
  go_wp2_with (go_at_call 49;refine(HT.out _ hal).mono ?_;rintro r w2 ⟨rfl,hb2⟩);go_ret;exact⟨rfl,hal.trans (hb2.mono hz1)⟩
 | true =>
  go_upto_region 2 with (go_at_call 49;refine(HT.out _ hal).mono ?_;rintro r w2 ⟨rfl,hb2⟩)
  have hbw2:=hal.trans (hb2.mono hz1);have hz2:=hb2.size;have En:=ah (HC.out w2 hbw2 ((hb2.block _ hl1).trans hN) (by rw[Lib.cell_of_heap ((hb2.block _ hl2).trans hR)];rfl) (by omega));clear HC HT;go_wp2_with (go_at_call 95;refine En.out.mono ?_;rintro r w3 ⟨rfl,hb3⟩);go_ret;exact⟨rfl,hbw2.trans (hb3.mono hbw2.size)⟩
end Go.Proofs.YtknicmmigbhpcaaGreatDoor

namespace Go.Proofs.YtknicmmigbhpcaaGreatDoor
open Go.RowKit
abbrev ML:=List (List UInt8 × List Value)
def pO (p:List UInt8 × List Value):List Value:=.string ⟨p.1.toArray⟩ :: p.2
def Zp (l:ML):List Value:=l.flatMap pO
structure IZ (k:Nat) (l:ML):Prop where
 sorted:(l.map Prod.fst).Pairwise (· < ·)
 wid:∀ p∈l,p.2.length=k
 one:∀ p∈l,∀ u∈p.2,u.oneCell'=true
theorem IZ.nil (k:Nat):IZ k []:=⟨List.Pairwise.nil,(by intro p h;cases h),(by intro p h;cases h)⟩
def cZ (l:ML)(x:List UInt8):Nat:=(l.takeWhile fun p=>decide (p.1<x)).length
def rF (l:ML)(x:List UInt8):Bool:=decide (x∈l.map Prod.fst)
def su (l:ML)(x:List UInt8):Option (List Value):=(l.find? fun p=>decide (p.1=x)).map Prod.snd
def EJ (l:ML)(x:List UInt8)(v:List Value):ML:=l.take (cZ l x)++(x,v) :: l.drop (cZ l x)
def Zq (l:ML)(x:List UInt8)(v:List Value):ML:=l.map fun p=>if p.1=x then (x,v) else p
def ac9 (l:ML)(x:List UInt8)(v:List Value):ML:=if rF l x=true then Zq l x v else EJ l x v
theorem Gt (l:ML)(x:List UInt8):cZ l x≤l.length:=(List.takeWhile_prefix (l:=l) _).length_le
theorem zF {x:List UInt8}:∀ {l:ML} {t:Nat} (h:t<l.length),t<cZ l x→l[t].1<x
 | [],_,h,_=>absurd h (by simp)
 | p :: l,t,h,ht=>by
  unfold cZ at ht;rw[List.takeWhile_cons] at ht
  split at ht
  ·rename_i hp
   cases t with
   | zero=>exact of_decide_eq_true hp
   | succ t =>
    rw[eG] at ht h;exact zF (Nat.lt_of_succ_lt_succ h) (show t<cZ l x from Nat.lt_of_succ_lt_succ ht)
  ·simp at ht
theorem pE {x:List UInt8}:∀ {l:ML} (h:cZ l x<l.length),¬ l[cZ l x].1<x
 | [],h=>absurd h (by simp)
 | p :: l,h=>by
  by_cases hp:p.1<x
  ·have e:cZ (p :: l) x=cZ l x+1:=by unfold cZ;rw[List.takeWhile_cons,if_pos (decide_eq_true hp)];rfl
   simp only[e,List.getElem_cons_succ];exact pE (by rw[e] at h;simpa using h)
  ·have e:cZ (p :: l) x=0:=by unfold cZ;rw[List.takeWhile_cons,if_neg (by simpa using hp)];rfl
   simp only[e,List.getElem_cons_zero];exact hp
theorem IZ.mono {k:Nat}{l:ML}(h:IZ k l){i j:Nat}(hij:i<j)(hj:j<l.length):l[i].1<l[j].1:=by
 have:=List.pairwise_iff_getElem.1 h.sorted i j (by simpa using Nat.lt_trans hij hj) (by simpa using hj) hij
 simpa using this
theorem wh {k:Nat}{l:ML}(h:IZ k l){x:List UInt8}{t:Nat}(ht:t<l.length):l[t].1<x↔t<cZ l x:=by
 constructor
 ·intro hlt
  apply Classical.byContradiction
  intro q
  by_cases e:cZ l x=t
  ·subst e;exact pE ht hlt
  ·have h1:cZ l x<l.length:=by omega
   exact pE h1 (List.lt_trans (h.mono (by omega) ht) hlt)
 ·exact zF ht
theorem DY {k:Nat}{l:ML}(h:IZ k l)(x:List UInt8):rF l x=decide (∃ hi:cZ l x<l.length,l[cZ l x].1=x):=by
 unfold rF
 congr 1
 apply propext
 constructor
 ·intro hm
  obtain⟨j,hj,e⟩:=List.getElem_of_mem hm;rw[List.length_map] at hj;rw[List.getElem_map] at e
  have h1:¬ l[j].1<x:=by rw[e];exact List.lt_irrefl _
  rw[wh h hj] at h1
  have h2:cZ l x<l.length:=by omega
  refine⟨h2,?_⟩
  by_cases q:cZ l x=j
  ·simp only[q];exact e
  ·have h3:=h.mono (show cZ l x<j by omega) hj
   rw[e] at h3;exact absurd h3 (pE h2)
 ·rintro⟨hi,e⟩
  rw[← e];exact List.mem_map_of_mem (List.getElem_mem hi)
theorem DZ (l:ML)(x:List UInt8):(su l x).isSome=rF l x:=by
 unfold su rF;rw[Option.isSome_map]
 induction l with
 | nil=>rfl
 | cons p l ih =>
  rw[List.find?_cons,List.map_cons]
  by_cases e:p.1=x
  ·rw[decide_eq_true e,decide_eq_true (by rw[e];exact List.mem_cons_self)];rfl
  ·rw[decide_eq_false e]
   simp only[ih]
   apply decide_eq_decide.2
   constructor
   ·exact List.mem_cons_of_mem _
   ·intro q
    rcases List.mem_cons.1 q with q|q
    ·exact absurd q.symm e
    ·exact q
theorem SI {l:ML}{x:List UInt8}(h:rF l x=false):su l x=none:=by
 have:=DZ l x;rw[h] at this
 simpa using this
theorem Zr {k:Nat}{l:ML}(h:IZ k l){x:List UInt8}{i:Nat}(hi:i<l.length)(e:l[i].1=x):su l x=some l[i].2:=by
 unfold su
 have:l.find? (fun p=>decide (p.1=x))=some l[i]:=by
  rw[List.find?_eq_some_iff_getElem];refine⟨decide_eq_true e,i,hi,rfl,fun j hj=>?_⟩;have:=h.mono hj hi;rw[e] at this;simp only[Bool.not_eq_true',decide_eq_false_iff_not];intro q;rw[q] at this;exact List.lt_irrefl _ this
 rw[this];rfl
theorem SK (l:ML)(x:List UInt8)(v:List Value):(EJ l x v).map Prod.fst=(l.map Prod.fst).take (cZ l x)++x :: (l.map Prod.fst).drop (cZ l x):=by
 unfold EJ;rw[List.map_append,List.map_cons,List.map_take,List.map_drop]
theorem IZ.ins {k:Nat}{l:ML}(h:IZ k l){x:List UInt8}{v:List Value}(hx:rF l x=false)(hv:v.length=k)(h1:∀ u∈v,u.oneCell'=true):IZ k (EJ l x v):=by
 have hmem:∀ p∈EJ l x v,p∈l∨p=(x,v):=fun p hp=>by
  unfold EJ at hp
  rcases List.mem_append.1 hp with q|q
  ·exact .inl (List.mem_of_mem_take q)
  ·rcases List.mem_cons.1 q with q|q
   ·exact .inr q
   ·exact .inl (List.mem_of_mem_drop q)
 refine⟨?_,fun p hp=>?_,fun p hp=>?_⟩
 ·have hg:∀ j,(hj:j<l.length)→cZ l x≤j→x<l[j].1:=fun j hj hij=>by
   have h1:¬ l[j].1<x:=by rw[wh h hj];omega
   rw[GK];refine⟨List.not_lt.1 h1,fun q=>?_⟩
   have:x∈l.map Prod.fst:=by rw[q];exact List.mem_map_of_mem (List.getElem_mem hj)
   unfold rF at hx;exact of_decide_eq_false hx this
  rw[SK,List.pairwise_append];refine⟨h.sorted.sublist (List.take_sublist _ _),List.pairwise_cons.2 ⟨fun y hy=>?_,h.sorted.sublist (List.drop_sublist _ _)⟩,fun y hy z hz=>?_⟩
  ·obtain⟨j,hj,rfl⟩:=List.getElem_of_mem hy
   rw[List.length_drop,List.length_map] at hj;rw[List.getElem_drop,List.getElem_map];exact hg _ (by omega) (by omega)
  ·obtain⟨j,hj,rfl⟩:=List.getElem_of_mem hy
   rw[List.length_take,List.length_map] at hj;rw[List.getElem_take,List.getElem_map];have hlt:l[j].1<x:=zF (by omega) (by omega)
   rcases List.mem_cons.1 hz with q|q
   ·rw[q];exact hlt
   ·obtain⟨m,hm,rfl⟩:=List.getElem_of_mem q
    rw[List.length_drop,List.length_map] at hm;rw[List.getElem_drop,List.getElem_map];exact List.lt_trans hlt (hg _ (by omega) (by omega))
 ·rcases hmem p hp with q|q
  ·exact h.wid p q
  ·rw[q];exact hv
 ·rcases hmem p hp with q|q
  ·exact h.one p q
  ·rw[q];exact h1
theorem WS {l:ML}{x:List UInt8}(v:List Value)(hx:rF l x=false)(y:List UInt8):su (EJ l x v) y=if y=x then some v else su l y:=by
 have hn:∀ p∈l,p.1≠x:=fun p hp q=>by
  unfold rF at hx;exact of_decide_eq_false hx (by rw[← q];exact List.mem_map_of_mem hp)
 have hl:l.find? (fun p=>decide (p.1=y))=((l.take (cZ l x)).find? fun p=>decide (p.1=y)).or ((l.drop (cZ l x)).find? fun p=>decide (p.1=y)):=by
  rw[← List.find?_append,List.take_append_drop]
 unfold su EJ;rw[List.find?_append,List.find?_cons,hl]
 by_cases e:y=x
 ·subst e
  rw[if_pos rfl,decide_eq_true rfl]
  have:(l.take (cZ l y)).find? (fun p=>decide (p.1=y))=none:=List.find?_eq_none.2 fun p hp=>by simpa using hn p (List.mem_of_mem_take hp)
  rw[this]
  rfl
 ·rw[if_neg e,decide_eq_false (fun q=>e q.symm)]
theorem SL (l:ML)(x:List UInt8)(v:List Value):(Zq l x v).map Prod.fst=l.map Prod.fst:=by
 unfold Zq;rw[List.map_map]
 refine List.map_congr_left fun p _=>?_
 simp only[Function.comp]
 split
 ·rename_i h;exact h.symm
 ·rfl
theorem IZ.set {k:Nat}{l:ML}(h:IZ k l)(x:List UInt8){v:List Value}(hv:v.length=k)(h1:∀ u∈v,u.oneCell'=true):IZ k (Zq l x v):=by
 refine⟨by rw[SL];exact h.sorted,fun p hp=>?_,fun p hp=>?_⟩
 ·obtain⟨q,hq,rfl⟩:=List.mem_map.1 hp
  split
  ·exact hv
  ·exact h.wid q hq
 ·obtain⟨q,hq,rfl⟩:=List.mem_map.1 hp
  split
  ·exact h1
  ·exact h.one q hq
theorem IZ.put {k:Nat}{l:ML}(h:IZ k l)(x:List UInt8){v:List Value}(hv:v.length=k)(h1:∀ u∈v,u.oneCell'=true):IZ k (ac9 l x v):=by
 unfold ac9
 split
 ·exact h.set x hv h1
 ·rename_i q;exact h.ins (by simpa using q) hv h1
theorem Qd {k:Nat}:∀ {l:ML} (_:∀ p∈l,p.2.length=k) (i j:Nat) (hi:i<l.length),j<k+1→(Zp l)[i * (k+1)+j]?=(pO l[i])[j]?
 | [],_,i,j,h,_=>absurd h (by simp)
 | p :: l,hw,0,j,_,hj=>by
  unfold Zp;rw[List.flatMap_cons,Nat.zero_mul,Nat.zero_add,List.getElem?_append_left (by rw[pO,eG,hw p (by simp)];exact hj)]
  rfl
 | p :: l,hw,i+1,j,h,hj=>by
  have:=Qd (l:=l) (fun q hq=>hw q (List.mem_cons_of_mem _ hq)) i j (by simpa using h) hj;unfold Zp at this ⊢
  have hp:(pO p).length=k+1:=by rw[pO,eG,hw p (by simp)]
  rw[List.flatMap_cons,List.getElem?_append_right (by rw[hp,Nat.succ_mul];omega),hp,show (i+1) * (k+1)+j - (k+1)=i * (k+1)+j by rw[Nat.succ_mul];omega,this]
  rfl
end Go.Proofs.YtknicmmigbhpcaaGreatDoor
