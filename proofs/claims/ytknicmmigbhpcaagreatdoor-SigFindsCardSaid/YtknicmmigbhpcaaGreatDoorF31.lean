/- Walks and plain laws: ScopeW9, FindW, FindsL, FreePlain, SigPlain. -/
import Derived.Test.YtknicmmigbhpcaaGreatDoorF30
import Derived.Test.YtknicmmigbhpcaaGreatDoorF27
import Derived.Deep.RegionHeldLaw
set_option maxHeartbeats 16000000
set_option maxRecDepth 100000
set_option linter.unusedVariables false
set_option linter.unusedSimpArgs false
namespace Go.Proofs.YtknicmmigbhpcaaGreatDoor
open Go.RowKit Go
theorem Tryz.WM:(Tryz.prog.info? 96).map (fun i=>(i.zero,i.size,i.bytes))=some (some (.agg #[.string ⟨#[]⟩,.int .i64 0,.slice none 0 0]),3,48):=by kernel_rfl
theorem Tryz.WO:∀ args w,(callFunc 38 args).run Tryz.prog w=.ok (.enter 38 args) w:=Go.Proofs.enters_of Tryz.func38 (by kernel_rfl) rfl
def Zo (P:Nat→Prop)(d:ZD)(w:World)(e:Ending)(w':World):Prop:=∃ a c ac cc,e=.returned (.agg #[.string ⟨d.res.name.toArray⟩,.slice a d.params.length c,.int .i64 d.res.base,.slice ac d.res.clause.length cc])∧tY (fun b=>(P b∧b<w.heap.size)∨w.heap.size≤b) w' (.slice a d.params.length c) (.slice ac d.res.clause.length cc) d.params d.res.clause∧Below w.heap.size w w'
theorem Lg {P:Nat→Prop}{w:World}{v:Value}{ks:List PZ}(h:RowK (ZK YA) P w v ks):∃ l:List (PZ × (Value × Value)),l.map Prod.fst=ks∧lS P w v 8 ks.length ((ZK YA).flat l)∧(∀ u∈(ZK YA).flat l,u.oneCell'=true)∧∀ p∈l,oI YA P w p.2.1 p.2.2 p.1:=by
 obtain⟨l,h1,h2,h3⟩:=h;refine⟨l,h1,h2,fun u hu=>?_,h3⟩;obtain⟨⟨e,m,k⟩,hp,hq⟩:=List.mem_flatMap.1 hu;have he:oI YA P w m k e:=h3 _ hp;obtain⟨am,wn,cm,ae,ce,rfl,rfl⟩:=he.slX;simp only[ZK,YA,List.mem_cons,List.not_mem_nil,or_false] at hq
 rcases hq with rfl|rfl|rfl|rfl|rfl|rfl|rfl|rfl<;>rfl
theorem DW {P Q R:Nat→Prop}{w w':World}{v':Value}{ks:List PZ}{l:List (PZ × (Value × Value))}(h1:l.map Prod.fst=ks)(h2:lS Q w' v' 8 ks.length ((ZK YA).flat l))(h3:∀ p∈l,oI YA P w p.2.1 p.2.2 p.1)(hA:aQ P w w')(hQ:∀ b,Q b→b<w'.heap.size→R b)(hP:∀ b,P b→b<w.heap.size→R b):RowK (ZK YA) R w' v' ks :=
 ⟨l,h1,h2.imp hQ,fun p hp=>((h3 p hp).imp (Q:=fun b=>P b∧R b) fun b hb hl=>⟨hb,hP b hb hl⟩).frame ⟨hA.1,fun b hb hl=>hA.2 b hb.1 hl⟩ |>.imp fun b hb _=>hb.2⟩
theorem tZ {P:Nat→Prop}{w:World}{b:Nat}(v0 v1 v2 v3:Value)(h:∀ k,P k→k≠b):aQ P w (jN w b v0 v1 v2 v3) :=
 (((aQ.set (a:=⟨b,0,none⟩) v0 h).trans (aQ.set (a:=⟨b,1,none⟩) v1 h)).trans (aQ.set (a:=⟨b,2,none⟩) v2 h)).trans (aQ.set (a:=⟨b,3,none⟩) v3 h)
theorem Sv (P:Nat→Prop)(d:ZD)(ap:Option Addr)(cp:Nat)(ac:Option Addr)(cc:Nat)(am:Option Addr)(wn cm:Nat)(ae:Option Addr)(ce:Nat)(w:World)(hfit:d.uV)
  (hP:RowK ZFK P w (.slice ap d.params.length cp) d.params) (hC:RowK (ZK YA) P w (.slice ac d.res.clause.length cc) d.res.clause) :
  Calls Tryz.prog 13 #[.agg (ED d ap cp ac cc am wn cm ae ce)] w (Zo P d w):=by
 have hal:=(aj w (.cells (ED d ap cp ac cc am wn cm ae ce) 48)).alloc (by simp) (.cells #[.string ⟨#[]⟩,.slice none 0 0,.int .i64 0,.slice none 0 0] 31);have g0:=(Lib.alloc_old (w.alloc (.cells (ED d ap cp ac cc am wn cm ae ce) 48)) (.cells #[.string ⟨#[]⟩,.slice none 0 0,.int .i64 0,.slice none 0 0] 31) w.heap.size (by simp)).trans (heap_alloc_new w (.cells (ED d ap cp ac cc am wn cm ae ce) 48));have g1:=heap_alloc_new (w.alloc (.cells (ED d ap cp ac cc am wn cm ae ce) 48)) (.cells #[.string ⟨#[]⟩,.slice none 0 0,.int .i64 0,.slice none 0 0] 31);rw[World.size_alloc] at g1;obtain⟨ae',ce',hv,_,hform⟩:=hP.form;simp only[Value.slice.injEq] at hv;obtain⟨rfl,-,rfl⟩:=hv;have hPR:=hP;obtain⟨lc,hlc,hcs1,hcs2,ac2⟩:=Lg hC
 obtain⟨cs,abr⟩:∃ cs,cs=(ZK YA).flat lc:=⟨_,rfl⟩
 rw[← abr] at hcs1 hcs2;have HCS:=ah (And.intro hlc (And.intro abr ac2));have hpn:=hfit.jS;have hcn:=hfit.cl.1;have Tj:=ah (fun W (hW:Below w.heap.size w W)=>DU P _ _ cs W (hcs1.frame (aQ.of hW)) hcs2 (by omega));have HF:=ah hform;have aek:=ah hfit;clear hform hP hC hfit hcs1 hcs2 ac2 hlc abr hPR;go_enter Tryz.func13,Tryz.ntmps13
 go_upto_region 1 with fail
 change Code.wp _ _ _ _ ((w.alloc (.cells (ED d ap cp ac cc am wn cm ae ce) 48)).alloc (.cells #[.string ⟨#[]⟩,.slice none 0 0,.int .i64 0,.slice none 0 0] 31));generalize (w.alloc (.cells (ED d ap cp ac cc am wn cm ae ce) 48)).alloc (.cells #[.string ⟨#[]⟩,.slice none 0 0,.int .i64 0,.slice none 0 0] 31)=w1 at *;have hz1:=hal.size;have hl1:=(bG g1).1;obtain⟨y0,y1,y2,y3,y4,y5,y6,y7,y8,y9,y10,y11,y12,y13,y14⟩:=DT g0;have HG:=ah (And.intro g0 g1)
 have hn1:w.heap.size≠w1.heap.size:=by omega
 clear g0 g1
 go_cut [3] (fun p wc=>∃ (Y:Nat) (a3:Option Addr) (c3:Nat),p=.pointer (some ⟨Y,0,none⟩)∧wc.heap[Y]?=some (.cells #[.string ⟨d.res.name.toArray⟩,.slice none 0 0,.int .i64 d.res.base,.slice a3 d.res.clause.length c3] 31 (0,0))∧w1.heap.size≤Y∧Below w1.heap.size w1 wc∧lS (fun b=>w1.heap.size≤b∧b≠Y) wc (.slice a3 d.res.clause.length c3) 8 d.res.clause.length cs)
 case first =>
  go_region_held3 (fun W=>W.cell? ⟨w.heap.size,1,none⟩=some (.string ⟨d.res.name.toArray⟩)∧W.cell? ⟨w.heap.size,3,none⟩=some (.int .i64 d.res.base)∧W.cell? ⟨w.heap.size,4,none⟩=some (.slice ac d.res.clause.length cc))
   (first|(with_reducible exact p3)|(with_reducible exact And.intro ((oF w2 w1.heap.size w.heap.size 1 _ _ _ _ hn1).trans p3.1) (And.intro ((oF w2 w1.heap.size w.heap.size 3 _ _ _ _ hn1).trans p3.2.1) ((oF w2 w1.heap.size w.heap.size 4 _ _ _ _ hn1).trans p3.2.2)))|(go_keep;done))
   (first|(go_at_call 38;refine(Tj.out _ ?_).mono ?_;(first|exact hal.drew|exact(hal.alloc hz1 _).drew);rintro e w2 ⟨a3,c3,rfl,hsl2,hb2⟩;have hq2:Below w1.heap.size w1 w2:=(by first|exact(Below.refl _ _).drew.trans hb2|exact((Below.refl _ _).alloc (Nat.le_refl _) _).drew.trans (hb2.mono (by simp)));have p3:=And.intro (cell_later hq2 y1) (And.intro (cell_later hq2 y3) (cell_later hq2 y4));try (have hT:=(hb2.block w1.heap.size (by simp)).trans (heap_alloc_new w1 (.cells #[.string ⟨#[]⟩,.slice none 0 0,.int .i64 0,.slice none 0 0] 31));obtain⟨⟨t0,t1,t2,t3⟩,g0,g1,g2,g3⟩:=fA hT)))
  ·clear p3
   go_wp2_with fail
   go_meet
   exact⟨w2.heap.size,a3,c3,rfl,heap_alloc_new w2 _,hq2.size,hq2.alloc hq2.size _,((hsl2.imp (Q:=fun b=>w1.heap.size≤b∧b≠w2.heap.size) fun b hb hl=>⟨hb,by omega⟩).frame (aQ.of (aj w2 _)))⟩
  ·clear p3
   go_wp2_with fail
   go_meet
   exact⟨w1.heap.size,a3,c3,rfl,fI hT (.string ⟨d.res.name.toArray⟩) (.slice none 0 0) (.int .i64 d.res.base) (.slice a3 d.res.clause.length c3),Nat.le_refl _,eF hq2 (Nat.le_refl _) (.string ⟨d.res.name.toArray⟩) (.slice none 0 0) (.int .i64 d.res.base) (.slice a3 d.res.clause.length c3),((hsl2.imp (Q:=fun b=>w1.heap.size≤b∧b≠w1.heap.size) fun b hb hl=>by have h9:w1.heap.size+1≤b:=(by simpa using hb);omega).frame (tZ _ _ _ _ fun k hk=>hk.2))⟩
 case rest =>
  obtain⟨Y,a3,c3,rfl,hY,hYw,hqc,hsl⟩:=hcut
  obtain⟨w2,rfl⟩:∃ w2:World,w2=wc:=⟨_,rfl⟩
  clear y0 y1 y2 y3 y4 y5 y6 y7 y8 y9 y10 y11 y12 y13 y14;have gd2:=(hqc.block _ (by omega)).trans HG.out.1;have gr2:=(hqc.block _ hl1).trans HG.out.2;have hzc:=hqc.size;have ael:=(bG hY).1;have hbw2:=hal.trans (hqc.mono hz1);obtain⟨y0,y1,y2,y3,y4,y5,y6,y7,y8,y9,y10,y11,y12,y13,y14⟩:=DT gd2;have WI:=ah gr2;have HY2:=ah hY;obtain⟨i0,hi,hz0,hz1',hz2⟩:=info_parts Tryz.WM;clear gd2 gr2 hY HG;generalize hps:d.params=ps at *;generalize hrn:d.res.name=rn at *;generalize hrb:d.res.base=rb at *;generalize hrl:d.res.clause.length=rl at *;have HRN:=ah (And.intro hrn (And.intro hrb hrl));have HSL:=ah hsl;have aem:Y<w2.heap.size:=ael;clear hsl;clear hrn hrb hrl;go_wp2;clear y0 y1 y2 y3 y4 y5 y6 y7 y8 y9 y10 y11 y12 y13 y14
  go_loopw [5,17] (fun _ q wr=>∃ (k:Nat) (ak:Option Addr) (ck:Nat),k≤ps.length∧q=.int .i64 k∧wr.heap[Y]?=some (.cells #[.string ⟨rn.toArray⟩,.slice ak k ck,.int .i64 rb,.slice a3 rl c3] 31 (0,0))∧kH Gc (fun b=>(P b∧b<w.heap.size)∨w2.heap.size≤b) w2.heap.size 96 wr (.slice ak k ck) (ps.take k)∧wr.heap[w.heap.size+1]?=some (.cells #[.string ⟨#[]⟩,.slice none 0 0,.int .i64 0,.slice none 0 0] 31 (0,0))∧Below w.heap.size w wr∧aQ (fun b=>b<w2.heap.size∧b≠Y) w2 wr) (fun _ q _=>ps.length - (intOf q).toNat)
  case atStart=>exact⟨0,none,0,Nat.zero_le _,rfl,HY2.out,by rw[List.take_zero];exact kH.nil _ _ _ _ _,WI.out,hbw2,aQ.refl _ _⟩
  case round =>
   obtain⟨k,ak,ck,hk,rfl,hYr,Lh,hgr,hbl,dW⟩:=hrel;have aen:=dW.1;have afA:w1.heap.size≤wr.heap.size:=Nat.le_trans hzc aen;have HQ:=ah Lh;obtain⟨vX,hr1,hown,hes⟩:=Lh
   have hlk:(ps.take k).length=k:=by rw[List.length_take,Nat.min_eq_left hk]
   rw[hlk] at hown;have hown:wr.ownsRow w2.heap.size 96 3 (.slice ak k ck) k (Gc.flat vX):=hown;have Je:=ah (And.intro hr1 (And.intro hes (And.intro hlk dW)));generalize hxs:Gc.flat vX=xs at hown;have HXS:=ah hxs;clear hes hr1 hlk dW hxs;have uU:=hbl.size;have hYl:=(bG hYr).1;have hgl:=(bG hgr).1;have HYR:=ah hYr;have HO:=ah hown;have HOW:=HO;have WQ:=ah hgr;clear hYr hown hgr
   by_cases hlt:k<ps.length
   ·obtain⟨b,off,rfl,hPb,hbw,qy⟩:=HF.out (by omega)
    obtain⟨cv,hcl,hc⟩:=qy k hlt;obtain⟨a2,c2,rfl⟩:=RowK.slice hcl;obtain⟨l2,hl2,hs1,hs2,hs3⟩:=Lg hcl
    obtain⟨cs2,WR⟩:∃ cs2,cs2=(ZK YA).flat l2:=⟨_,rfl⟩
    rw[← WR] at hs1 hs2;have htk:=List.take_succ_eq_append_getElem hlt;have HL2:=ah (And.intro hl2 (And.intro WR (And.intro hs3 htk)));clear hl2 WR hs3 htk;have hpf:=aek.out.pcl _ (by rw[hps];exact List.getElem_mem hlt);have x0:=(hbl.cell (p:=⟨b,off+k * 5+0,none⟩) hbw).trans (hc 0 _ rfl);have x1:=(hbl.cell (p:=⟨b,off+k * 5+1,none⟩) hbw).trans (hc 1 _ rfl);have x2:=(hbl.cell (p:=⟨b,off+k * 5+2,none⟩) hbw).trans (hc 2 _ rfl);have x3:=(hbl.cell (p:=⟨b,off+k * 5+3,none⟩) hbw).trans (hc 3 _ rfl);have x4:=(hbl.cell (p:=⟨b,off+k * 5+4,none⟩) hbw).trans (hc 4 _ rfl);rw[Nat.add_zero] at x0;simp only[bY] at x0;have hpc:=hpf.1;clear qy hcl hc hpf;generalize ps[k]=p at *;have kW:=aj wr (.cells #[.string ⟨p.name.toArray⟩,.int .i64 p.base,.slice a2 p.clause.length c2,.int .i64 p.at_,.int .i64 p.bare] 80);have gk:=heap_alloc_new wr (.cells #[.string ⟨p.name.toArray⟩,.int .i64 p.base,.slice a2 p.clause.length c2,.int .i64 p.at_,.int .i64 p.bare] 80)
    have nJ:(k:Int)<(ps.length:Int):=by omega
    go_upto_region 5 with fail
    change Code.wp _ _ _ _ (wr.alloc (.cells #[.string ⟨p.name.toArray⟩,.int .i64 p.base,.slice a2 p.clause.length c2,.int .i64 p.at_,.int .i64 p.bare] 80));clear x0 x1 x2 x3 x4
    have aeo:wr.heap.size<(wr.alloc (.cells #[.string ⟨p.name.toArray⟩,.int .i64 p.base,.slice a2 p.clause.length c2,.int .i64 p.at_,.int .i64 p.bare] 80)).heap.size:=by simp
    generalize wr.alloc (.cells #[.string ⟨p.name.toArray⟩,.int .i64 p.base,.slice a2 p.clause.length c2,.int .i64 p.at_,.int .i64 p.bare] 80)=w3 at *;have hz3:=kW.size;have HCK:=ah (fun W (hW:Below w3.heap.size w3 W)=>DU P _ _ cs2 W (hs1.frame (aQ.of (hbl.trans ((kW.trans (hW.mono hz3)).mono uU)))) hs2 (by omega));have HY3:=ah ((kW.block Y hYl).trans HYR.out);have HO3:=ah (own_below HO.out kW);have HG3:=ah ((kW.block _ hgl).trans WQ.out);have HGK:=ah gk
    have HS:Hid (∀ W,aQ (fun b=>b=wr.heap.size) w3 W→(W.cell? ⟨wr.heap.size,0,none⟩=some (.string ⟨p.name.toArray⟩)∧W.cell? ⟨wr.heap.size,1,none⟩=some (.int .i64 p.base)∧W.cell? ⟨wr.heap.size,2,none⟩=some (.slice a2 p.clause.length c2))):=ah fun W hW=>by
     obtain⟨q0,q1,q2,_,_⟩:=Ic ((hW.2 _ rfl aeo).trans HGK.out);exact⟨q0,q1,q2⟩
    have aep:some wr.heap.size≠(Value.slice ak k ck).ownBlock:=own_ne HO3.out HGK.out (by decide);have HC:=ah (HCK.out w3.drew (Below.refl _ _).drew);have aer:=Tryz.WO;have p3:=HS.out w3.drew (aQ.of (Below.refl _ _).drew);obtain⟨t0,t1,t2,t3⟩:=(fA HY3.out).1
    have abn:Y<w3.heap.size:=by omega
    have aes:w.heap.size+1<w3.heap.size:=by omega
    have hne:wr.heap.size≠Y:=by omega
    clear gk hs1 HYR HO WQ HCK;refine wp_region_held_drew (S:=(fun W=>W.cell? ⟨wr.heap.size,0,none⟩=some (.string ⟨p.name.toArray⟩)∧W.cell? ⟨wr.heap.size,1,none⟩=some (.int .i64 p.base)∧W.cell? ⟨wr.heap.size,2,none⟩=some (.slice a2 p.clause.length c2))) (by kernel_rfl) p3 (fun hHeld=>?_);refine wpAnyH_take (i:=0) (oi:=⟨some 21,_,_,_,_,_⟩) (v:=?_) rfl (by kernel_rfl) (by kernel_rfl) (by kernel_rfl) (fun _ _ _ h=>h) (Or.inl ⟨by rfl,?_⟩) hHeld ?_
    rotate_left
    ·intro w hSw;(try dsimp only at hSw);go_simp;try (with_reducible rfl)
    simp only[Act.put,List.setIfInBounds_toArray,List.set_cons_zero,List.set_cons_succ];refine wpAnyH_take (i:=2) (oi:=⟨some 23,_,_,_,_,_⟩) (v:=?_) rfl (by kernel_rfl) (by kernel_rfl) (by kernel_rfl) (fun _ _ _ h=>h) (Or.inl ⟨by rfl,?_⟩) hHeld ?_
    rotate_left
    ·intro w hSw;(try dsimp only at hSw);go_simp;try (with_reducible rfl)
    simp only[Act.put,List.setIfInBounds_toArray,List.set_cons_zero,List.set_cons_succ];refine wpAnyH_take (i:=3) (oi:=⟨some 24,_,_,_,_,_⟩) (v:=?_) rfl (by kernel_rfl) (by kernel_rfl) (by kernel_rfl) (fun _ _ _ h=>h) (Or.inl ⟨by rfl,?_⟩) hHeld ?_
    rotate_left
    ·intro w hSw;(try dsimp only at hSw);go_simp;try (with_reducible rfl)
    simp only[Act.put,List.setIfInBounds_toArray,List.set_cons_zero,List.set_cons_succ];refine wpAnyH_take (i:=4) (oi:=⟨some 25,_,_,_,_,_⟩) (v:=?_) rfl (by kernel_rfl) (by kernel_rfl) (by kernel_rfl) (fun _ _ _ h=>h) (Or.inl ⟨by rfl,?_⟩) hHeld ?_
    rotate_left
    ·intro w hSw;(try dsimp only at hSw);go_simp;try (with_reducible rfl)
    simp only[Act.put,List.setIfInBounds_toArray,List.set_cons_zero,List.set_cons_succ];refine wpAnyH_take (i:=5) (oi:=⟨some 26,_,_,_,_,_⟩) (v:=?_) rfl (by kernel_rfl) (by kernel_rfl) (by kernel_rfl) (fun _ _ _ h=>h) (Or.inl ⟨by rfl,?_⟩) hHeld ?_
    rotate_left
    ·intro w hSw;(try dsimp only at hSw);go_simp;try (with_reducible rfl)
    simp only[Act.put,List.setIfInBounds_toArray,List.set_cons_zero,List.set_cons_succ];refine wpAnyH_take (i:=6) (oi:=⟨some 27,_,_,_,_,_⟩) (v:=?_) rfl (by kernel_rfl) (by kernel_rfl) (by kernel_rfl) (fun _ _ _ h=>h) (Or.inl ⟨by rfl,?_⟩) hHeld ?_
    rotate_left
    ·intro w hSw;(try dsimp only at hSw);go_simp;try (with_reducible rfl)
    simp only[Act.put,List.setIfInBounds_toArray,List.set_cons_zero,List.set_cons_succ];refine wpAnyH_take (i:=7) (oi:=⟨some 28,_,_,_,_,_⟩) (v:=?_) rfl (by kernel_rfl) (by kernel_rfl) (by kernel_rfl) (fun _ _ _ h=>h) (Or.inl ⟨by rfl,?_⟩) hHeld ?_
    rotate_left
    ·intro w hSw;(try dsimp only at hSw);go_simp;try (with_reducible rfl)
    simp only[Act.put,List.setIfInBounds_toArray,List.set_cons_zero,List.set_cons_succ];refine wpAnyH_ready (rs:=[1,8]) (by kernel_rfl) (by simp) (AllReadyH.cons (o:=⟨some 22,_,_,_,_,_⟩) rfl (fun K hK=>?_) (AllReadyH.cons (o:=⟨some 29,_,_,_,_,_⟩) rfl (fun K hK=>?_) AllReadyH.nil));go_simp;refine hK.out _ _ (hHeld) (fun hHeld=>?_);clear hK K;refine wpAnyH_ready (rs:=[8]) (by kernel_rfl) (by simp) (AllReadyH.cons (o:=⟨some 29,_,_,_,_,_⟩) rfl (fun K hK=>?_) AllReadyH.nil)
    all_goals
     refine uD rfl 38 _ _ rfl HC.out (by rfl) (aer _ _) ?_;rintro e w5 ⟨a5,c5,rfl,aeu,hb5⟩;refine⟨_,rfl,?_⟩;have zP:Below w3.heap.size w3 w5:=(Below.refl w3.heap.size w3).drew.trans hb5;have hY5:=(zP.block Y abn).trans HY3.out;have r52:=(fA hY5).1.2.1;have r53:=fun o=>Lib.cell?_alloc_some o r52;have al5:aQ (fun b=>b=wr.heap.size) w3 w5:=aQ.of zP;have p3:=HS.out _ al5;have p3a:=fun o=>HS.out (w5.alloc o) (al5.trans (aQ.of (aj w5 o)))
     refine hK.out _ _ (p3) (fun hHeld=>?_);clear hK K
    all_goals
     refine wpAnyH_take (i:=9) (oi:=⟨some 30,_,_,_,_,_⟩) (v:=?_) rfl (by kernel_rfl) (by kernel_rfl) (by kernel_rfl) (fun _ _ _ h=>h) (Or.inl ⟨by rfl,?_⟩) hHeld ?_;rotate_left
     ·intro w hSw;(try dsimp only at hSw);go_simp;try (with_reducible rfl)
     simp only[Act.put,List.setIfInBounds_toArray,List.set_cons_zero,List.set_cons_succ]
    rotate_left 1;refine wpAnyH_ready (rs:=[1,10]) (by kernel_rfl) (by simp) (AllReadyH.cons (o:=⟨some 22,_,_,_,_,_⟩) rfl (fun K hK=>?_) (AllReadyH.cons (o:=⟨some 31,_,_,_,_,_⟩) rfl (fun K hK=>?_) AllReadyH.nil));rotate_right 1
    rotate_left 1;go_simp;refine hK.out _ _ (hHeld) (fun hHeld=>?_);clear hK K;refine wpAnyH_ready (rs:=[10]) (by kernel_rfl) (by simp) (AllReadyH.cons (o:=⟨some 31,_,_,_,_,_⟩) rfl (fun K hK=>?_) AllReadyH.nil);rotate_right 1
    refine wpAnyH_ready (rs:=[10]) (by kernel_rfl) (by simp) (AllReadyH.cons (o:=⟨some 31,_,_,_,_,_⟩) rfl (fun K hK=>?_) AllReadyH.nil)
    all_goals
     go_simp;refine hK.out _ _ (p3a _) (fun hHeld=>?_);clear hK K
    rotate_left 2;refine wpAnyH_ready (rs:=[1]) (by kernel_rfl) (by simp) (AllReadyH.cons (o:=⟨some 22,_,_,_,_,_⟩) rfl (fun K hK=>?_) AllReadyH.nil);go_simp;refine hK.out _ _ (hHeld) (fun hHeld=>?_);clear hK K;rotate_right 2
    all_goals refine wpAnyH_ready (rs:=[11]) (by kernel_rfl) (by simp) (AllReadyH.cons (o:=⟨some 32,_,_,_,_,_⟩) rfl (fun K hK=>?_) AllReadyH.nil)
    all_goals
     refine step_append_lies _ (by rfl) _ _ _ (by rfl) w2.heap.size 96 i0 _ 3 48 Tryz.underlying28 hi hz0 hz1' hz2 rfl (by omega) (.slice ak k ck) k _ (by rfl) ((own_below HO3.out zP).alloc _) ⟨w5.heap.size,0,none⟩ 1 1 [.string ⟨p.name.toArray⟩,.int .i64 p.base,.slice a5 p.clause.length c5] (by rfl) (by rfl) (World.news_of_block (cs:=#[.string ⟨p.name.toArray⟩,.int .i64 p.base,.slice a5 p.clause.length c5]) (t:=96) (fr:=(0,0)) (heap_alloc_new w5 _)) (by simp[Value.oneCell']) (by omega) (by unfold maxLen;omega) (by omega) (by have:=zP.size;simp;omega) (w5.heap.size+1) (by simp) ?_;intro gg cap6 w6 hown6 kR Un Uo;have hY6:=fU ((own_below HO3.out zP).alloc _) kR ((Lib.alloc_old w5 _ Y (by have:=zP.size;omega)).trans hY5) (by decide);have hG6:=fU ((own_below HO3.out zP).alloc _) kR ((Lib.alloc_old w5 _ _ (by have:=zP.size;omega)).trans ((zP.block _ aes).trans HG3.out)) (by decide);have r65:=(fA hY6).1.2.1;have z65:=(fA hY6).2.2.1;have al6:=(al5.trans (aQ.of (aj w5 _))).trans (aQ.grown kR fun b hb q=>aep (by rw[← hb];exact q));have p3:=HS.out _ al6;have p3a:=fun v=>HS.out (w6.setCell ⟨Y,1,none⟩ v) (al6.trans (aQ.set v fun b hb=>by rw[hb];exact hne))
     refine hK.out _ _ (p3) (fun hHeld=>?_);clear hK K
    all_goals
     refine wpAnyH_take (i:=12) (oi:=⟨some 33,_,_,_,_,_⟩) (v:=?_) rfl (by kernel_rfl) (by kernel_rfl) (by kernel_rfl) (fun _ _ _ h=>h) (Or.inl ⟨by rfl,?_⟩) hHeld ?_;rotate_left
     ·intro w hSw;(try dsimp only at hSw);go_simp;try (with_reducible rfl)
     simp only[Act.put,List.setIfInBounds_toArray,List.set_cons_zero,List.set_cons_succ]
    all_goals refine wpAnyH_ready (rs:=[13]) (by kernel_rfl) (by simp) (AllReadyH.cons (o:=⟨none,_,_,_,_,_⟩) rfl (fun K hK=>?_) AllReadyH.nil)
    all_goals
     go_simp;refine hK.out _ _ (p3a _) (fun hHeld=>?_);clear hK K
    all_goals refine wpAnyH_done (by kernel_rfl) ?_ _
    all_goals
     have hx5:RowK (ZK YA) (fun b=>((P b∧b<w.heap.size)∨w2.heap.size≤b)∧some b≠(Value.slice ak k ck).ownBlock) w5 (.slice a5 p.clause.length c5) p.clause :=
      DW HL2.out.1 (by rw[← HL2.out.2.1];exact aeu) HL2.out.2.2.1 (aQ.of ((hbl.trans ((kW.trans (zP.mono hz3)).mono uU)))) (fun b hb _=>⟨.inr (by have h9:w3.heap.size≤b:=hb;omega),fun q=>by have h8:=(HO3.out.lt b q.symm).2;have h9:w3.heap.size≤b:=hb;omega⟩) (fun b hb hl=>⟨.inl ⟨hb,hl⟩,fun q=>by have h8:=(HO3.out.lt b q.symm).1;omega⟩)
     obtain⟨q1,q2,q3⟩:=kH.round (K:=Gc) (Q:=fun b=>(P b∧b<w.heap.size)∨w2.heap.size≤b) (wr:=wr) (kv:=.slice ak k ck) (QM:=.slice (some ⟨gg,0,none⟩) (k+1) cap6) (acc:=ps.take k) (a:=p) (x:=.slice a5 p.clause.length c5) (l:=vX) Je.out.2.2.2 aem (fun q=>by rcases q with q|q<;>omega) Je.out.1 (by rw[Je.out.2.2.1];rw[← HXS.out] at HOW;exact HOW.out) Je.out.2.1 hx5 (kW.trans (zP.mono hz3)) (by rw[Je.out.2.2.1,HXS.out];exact hown6) kR rfl Un 1 (.slice (some ⟨gg,0,none⟩) (k+1) cap6);rw[← HL2.out.2.2.2] at q1;have HE:=ah (And.intro (heap_setCell_same w6 Y 1 _ _ (.slice (some ⟨gg,0,none⟩) (k+1) cap6) hY6) (And.intro q1 (And.intro ((heap_setCell_other w6 ⟨Y,1,none⟩ (w.heap.size+1) (.slice (some ⟨gg,0,none⟩) (k+1) cap6) (by show w.heap.size+1≠Y;omega)).trans hG6) (And.intro (q3 w.heap.size w (by omega) hbl) q2))));clear q1 q2 q3 hx5;clear p3 p3a al6 al5 r65 z65 r52 r53 hY6 hG6 kR hown6 Un Uo hY5 hb5 t0 t1 t2 t3 hHeld;go_wp2_with fail
     go_roundw
     case rel=>exact⟨k+1,some ⟨gg,0,none⟩,cap6,by omega,by go_num,HE.out.1,HE.out.2.1,HE.out.2.2.1,HE.out.2.2.2.1,HE.out.2.2.2.2⟩
     case measure=>simp[intOf];omega
   ·obtain rfl:k=ps.length:=by omega
    have nJ:decide ((ps.length:Int)<(ps.length:Int))=false:=decide_eq_false (by omega);obtain⟨⟨t0,t1,t2,t3⟩,-⟩:=fA HYR.out;obtain⟨⟨c0,c1,c2,c3'⟩,f0,f1,f2,f3⟩:=fA WQ.out;have hP:=fI WQ.out (.string ⟨rn.toArray⟩) (.slice ak ps.length ck) (.int .i64 rb) (.slice a3 rl c3);have Ef:=eF hbl (by omega:w.heap.size≤w.heap.size+1) (.string ⟨rn.toArray⟩) (.slice ak ps.length ck) (.int .i64 rb) (.slice a3 rl c3)
    have hSG:tY (fun b=>(P b∧b<w.heap.size)∨w.heap.size≤b) (jN wr (w.heap.size+1) (.string ⟨rn.toArray⟩) (.slice ak ps.length ck) (.int .i64 rb) (.slice a3 rl c3)) (.slice ak ps.length ck) (.slice a3 rl c3) ps d.res.clause:=by
     have h7:=HQ.out;rw[List.take_length] at h7;refine⟨((h7.row (R:=fun b=>(P b∧b<w.heap.size)∨w2.heap.size≤b) (fun _ q=>.inr q) (fun _ q _=>q)).frame (tZ _ _ _ _ fun k hk=>by rcases hk with hk|hk<;>omega)).imp fun b hb _=>by rcases hb with hb|hb;exact .inl hb;exact .inr (by omega),?_⟩
     have h81:lS (fun b=>(w1.heap.size≤b∧b≠Y)∧(b<w2.heap.size∧b≠Y)) w2 (.slice a3 rl c3) 8 rl cs:=HSL.out.imp fun b hb hl=>⟨hb,hl,hb.2⟩
     have h82:=h81.frame (w':=wr) ⟨Je.out.2.2.2.1,fun b hb hl=>Je.out.2.2.2.2 b hb.2 hl⟩
     have h8:lS (fun b=>w1.heap.size≤b∧b≠Y) wr (.slice a3 rl c3) 8 rl cs:=h82.imp fun b hb _=>hb.1
     have h9:RowK (ZK YA) (fun b=>(P b∧b<w.heap.size)∨w1.heap.size≤b) wr (.slice a3 rl c3) d.res.clause:=DW (Q:=fun b=>w1.heap.size≤b∧b≠Y) HCS.out.1 (by rw[← HCS.out.2.1,HRN.out.2.2];exact h8) HCS.out.2.2 (aQ.of hbl) (fun b hb _=>.inr hb.1) (fun b hb hl=>.inl ⟨hb,hl⟩)
     exact(h9.frame (tZ _ _ _ _ fun k hk=>by rcases hk with hk|hk<;>omega)).imp fun b hb _=>by rcases hb with hb|hb;exact .inl hb;exact .inr (by omega)
    have Tq:=ah hSG;clear hSG;have HP:=ah hP;have HB:=ah Ef;clear hP Ef HYR WQ HO;go_wp2;change bodyPost _ _ _ _ _ (jN wr (w.heap.size+1) (.string ⟨rn.toArray⟩) (.slice ak ps.length ck) (.int .i64 rb) (.slice a3 rl c3));generalize jN wr _ _ _ _ _=w4 at *;obtain⟨⟨d0,d1,d2,d3⟩,-⟩:=fA HP.out;exact bodyPost_ret (v:=.agg #[.string ⟨rn.toArray⟩,.slice ak ps.length ck,.int .i64 rb,.slice a3 rl c3]) (by simp[results,Tryz.results13,go_sem,d0,d1,d2,d3]) rfl ⟨ak,ck,a3,c3,by rw[HRN.out.1,HRN.out.2.1,HRN.out.2.2,hps],by rw[hps,HRN.out.2.2];exact Tq.out,HB.out⟩
structure XQ where
 res:ZF
 params:List ZF
structure ZFc where
 module:List UInt8
 sigs:List XQ
def oG (nm:List UInt8):List XQ→Option XQ
 | []=>none
 | s :: l=>if s.res.name=nm then some s else oG nm l
def nC (md nm:List UInt8):List ZFc→Option XQ
 | []=>none
 | f :: l=>if f.module=md then oG nm f.sigs else nC md nm l
def SgK:RK XQ (Value × Value) where
 sz:=4
 cells s x:=[bY s.res.name,x.1,.int .i64 s.res.base,x.2]
 inn P w s x:=tY P w x.1 x.2 s.params s.res.clause
 len _ _:=rfl
 frame h ha:=h.frame ha
 imp h hq:=h.imp hq
def FcK:RK ZFc Value where
 sz:=2
 cells f v:=[bY f.module,v]
 inn P w f v:=RowK SgK P w v f.sigs
 len _ _:=rfl
 frame h ha:=h.frame ha
 imp h hq:=h.imp hq
def WS (P:Nat→Prop)(o:Option XQ)(w:World)(e:Ending)(w':World):Prop :=
 Below w.heap.size w w'∧match o with
 | none=>e=.returned (.tuple #[.agg #[.string ⟨#[]⟩,.slice none 0 0,.int .i64 0,.slice none 0 0],.bool false])
 | some s=>∃ a c ac cc,e=.returned (.tuple #[.agg #[.string ⟨s.res.name.toArray⟩,.slice a s.params.length c,.int .i64 s.res.base,.slice ac s.res.clause.length cc],.bool true])∧tY P w' (.slice a s.params.length c) (.slice ac s.res.clause.length cc) s.params s.res.clause
theorem AQ (x y:List UInt8):(x == y)=decide (x=y):=by
 by_cases h:x=y
 ·subst h;simp
 ·rw[decide_eq_false h];exact beq_eq_false_iff_ne.2 h
theorem WT (P:Nat→Prop)(md nm:List UInt8)(fs:List ZFc)(af:Option Addr)(cf:Nat)(w:World)(hF:RowK FcK P w (.slice af fs.length cf) fs)(hfl:fs.length≤1000000)(hsl:∀ f∈fs,f.sigs.length≤1000000) :
  Calls Tryz.prog 11 #[.slice af fs.length cf,.string ⟨md.toArray⟩,.string ⟨nm.toArray⟩] w (WS (fun b=>P b∧b<w.heap.size) (nC md nm fs) w):=by
 have hal:=aj w (.cells #[.string ⟨#[]⟩,.slice none 0 0,.int .i64 0,.slice none 0 0] 31);have g0:=heap_alloc_new w (.cells #[.string ⟨#[]⟩,.slice none 0 0,.int .i64 0,.slice none 0 0] 31);obtain⟨ae',ce',hv,_,hform⟩:=hF.form;simp only[Value.slice.injEq] at hv;obtain⟨rfl,-,rfl⟩:=hv;have HF:=ah hform;have HSL:=ah hsl;clear hform hF hsl
 obtain⟨R,hR⟩:∃ R,R=nC md nm fs:=⟨_,rfl⟩
 rw[← hR];have HR:=ah hR;clear hR
 have FIN:Hid (∀ W,Below w.heap.size w W→W.heap[w.heap.size]?=some (.cells #[.string ⟨#[]⟩,.slice none 0 0,.int .i64 0,.slice none 0 0] 31 (0,0))→R=none→Below w.heap.size w (jN W w.heap.size (.string ⟨#[]⟩) (.slice none 0 0) (.int .i64 0) (.slice none 0 0))∧(jN W w.heap.size (.string ⟨#[]⟩) (.slice none 0 0) (.int .i64 0) (.slice none 0 0)).heap[w.heap.size]?=some (.cells #[.string ⟨#[]⟩,.slice none 0 0,.int .i64 0,.slice none 0 0] 31 (0,0))) :=
  ah fun W h1 h2 _=>⟨eF h1 (Nat.le_refl _) _ _ _ _,fI h2 _ _ _ _⟩
 go_enter Tryz.func11,Tryz.ntmps11
 go_upto_region 1 with fail
 change Code.wp _ _ _ _ (w.alloc (.cells #[.string ⟨#[]⟩,.slice none 0 0,.int .i64 0,.slice none 0 0] 31));generalize w.alloc _=w1 at hal g0 ⊢;have hz1:=hal.size;have G0:=ah g0;clear g0;go_wp2
 go_loopw [9,14] (fun _ q wr=>∃ k:Nat,k≤fs.length∧q=.int .i64 k∧R=nC md nm (fs.drop k)∧Below w.heap.size w wr∧wr.heap[w.heap.size]?=some (.cells #[.string ⟨#[]⟩,.slice none 0 0,.int .i64 0,.slice none 0 0] 31 (0,0))) (fun _ q _=>fs.length - (intOf q).toNat)
 case atStart=>exact⟨0,Nat.zero_le _,rfl,HR.out,hal,G0.out⟩
 case round =>
  obtain⟨k,hk,rfl,hres,hbl,hgr⟩:=hrel;have uU:=hbl.size;have rW:=ah hres;have WI:=ah hgr;have hlr:=(bG hgr).1;clear hres hgr
  by_cases hlt:k<fs.length
  ·obtain⟨b,off,rfl,hPb,hbw,qy⟩:=HF.out (by omega)
   obtain⟨sv,hsv,hc⟩:=qy k hlt;obtain⟨Gi,Gj,rfl⟩:=RowK.slice hsv;have x0:=(hbl.cell (p:=⟨b,off+k * 2+0,none⟩) hbw).trans (hc 0 _ rfl);have x1:=(hbl.cell (p:=⟨b,off+k * 2+1,none⟩) hbw).trans (hc 1 _ rfl);rw[Nat.add_zero] at x0;simp only[bY] at x0;have hdr:fs.drop k=fs[k] :: fs.drop (k+1):=List.drop_eq_getElem_cons hlt;have HSV:=ah hsv;have hsg:=HSL.out _ (List.getElem_mem hlt);have HE:Hid (R=if fs[k].module=md then oG nm fs[k].sigs else nC md nm (fs.drop (k+1))):=ah (by rw[rW.out,hdr,nC])
   have nJ:(k:Int)<(fs.length:Int):=by omega
   clear hc qy hdr hsv rW;generalize fs[k]=f at *;obtain⟨fm,Au⟩:=f;simp only at x0 x1 HSV HE hsg;have bq:=aj wr (.cells #[.string ⟨fm.toArray⟩,.slice Gi Au.length Gj] 27);have hN:=heap_alloc_new wr (.cells #[.string ⟨fm.toArray⟩,.slice Gi Au.length Gj] 27)
   go_upto_region 4 with fail
   change Code.wp _ _ _ _ (wr.alloc (.cells #[.string ⟨fm.toArray⟩,.slice Gi Au.length Gj] 27));clear x0 x1;generalize wr.alloc (.cells #[.string ⟨fm.toArray⟩,.slice Gi Au.length Gj] 27)=w5 at *;obtain⟨y0,y1⟩:=DI hN;have hb5:=hbl.trans (bq.mono uU);have hg5:=(bq.block _ hlr).trans WI.out;have hcmp:=AQ fm md;have HG5:=ah hg5;clear hg5 WI hN
   by_cases hm:fm=md
   ·rw[decide_eq_true hm] at hcmp
    have HE2:Hid (R=oG nm Au):=ah (by rw[HE.out,if_pos hm]);clear HE hm;obtain⟨as2,cs2,hv,_,hfo⟩:=HSV.out.form;simp only[Value.slice.injEq] at hv;obtain⟨rfl,-,rfl⟩:=hv;have HF2:=ah hfo;have Mr:=hb5.size;clear hfo HSV;go_wp2;clear y0 y1
    go_loopw [11,25] (fun _ q wi=>∃ j:Nat,j≤Au.length∧q=.int .i64 j∧R=oG nm (Au.drop j)∧Below w.heap.size w wi∧wi.heap[w.heap.size]?=some (.cells #[.string ⟨#[]⟩,.slice none 0 0,.int .i64 0,.slice none 0 0] 31 (0,0))) (fun _ q _=>Au.length - (intOf q).toNat)
    case atStart=>exact⟨0,Nat.zero_le _,rfl,HE2.out,hb5,HG5.out⟩
    case round =>
     obtain⟨j,hj,rfl,hres2,hbi,hgi⟩:=hrel;have hzi:=hbi.size;have WU:=ah hres2;have HGI:=ah hgi;have hli:=(bG hgi).1;clear hres2 hgi
     by_cases hlt2:j<Au.length
     ·obtain⟨b2,off2,rfl,afB,hbw2,qy⟩:=HF2.out (by omega)
      obtain⟨⟨pv,cv⟩,⟨hpv,hcv⟩,hc⟩:=qy j hlt2;simp only at hpv hcv;obtain⟨ap,cp,rfl⟩:=hpv.slice;obtain⟨ac,cc,rfl⟩:=hcv.slice;have x0:=(hbi.cell (p:=⟨b2,off2+j * 4+0,none⟩) hbw2).trans (hc 0 _ rfl);have x1:=(hbi.cell (p:=⟨b2,off2+j * 4+1,none⟩) hbw2).trans (hc 1 _ rfl);have x2:=(hbi.cell (p:=⟨b2,off2+j * 4+2,none⟩) hbw2).trans (hc 2 _ rfl);have x3:=(hbi.cell (p:=⟨b2,off2+j * 4+3,none⟩) hbw2).trans (hc 3 _ rfl);rw[Nat.add_zero] at x0;simp only[bY] at x0;have hdr:Au.drop j=Au[j] :: Au.drop (j+1):=List.drop_eq_getElem_cons hlt2;have Tq:Hid (tY P w (.slice ap Au[j].params.length cp) (.slice ac Au[j].res.clause.length cc) Au[j].params Au[j].res.clause):=ah ⟨hpv,hcv⟩;have Ky:Hid (R=if Au[j].res.name=nm then some Au[j] else oG nm (Au.drop (j+1))):=ah (by rw[WU.out,hdr,oG])
      have Kz:(j:Int)<(Au.length:Int):=by omega
      clear hc qy hdr hpv hcv WU;generalize Au[j]=s at *;have kW:=aj wr (.cells #[.string ⟨s.res.name.toArray⟩,.slice ap s.params.length cp,.int .i64 s.res.base,.slice ac s.res.clause.length cc] 31);have KG:=heap_alloc_new wr (.cells #[.string ⟨s.res.name.toArray⟩,.slice ap s.params.length cp,.int .i64 s.res.base,.slice ac s.res.clause.length cc] 31)
      go_upto_region 8 with fail
      change Code.wp _ _ _ _ (wr.alloc (.cells #[.string ⟨s.res.name.toArray⟩,.slice ap s.params.length cp,.int .i64 s.res.base,.slice ac s.res.clause.length cc] 31));clear x0 x1 x2 x3;generalize wr.alloc (.cells #[.string ⟨s.res.name.toArray⟩,.slice ap s.params.length cp,.int .i64 s.res.base,.slice ac s.res.clause.length cc] 31)=w7 at *;obtain⟨⟨v0,v1,v2,v3⟩,-⟩:=fA KG;have pI:=hbi.trans (kW.mono hzi);have hg7:=(kW.block _ hli).trans HGI.out;have Gl:=AQ s.res.name nm;obtain⟨⟨r0,r1,r2,r3⟩,z0,z1,z2,z3⟩:=fA hg7;have HG7:=ah hg7;clear hg7 HGI KG
      by_cases hm2:s.res.name=nm
      ·rw[decide_eq_true hm2] at Gl
       have Zp:Hid (R=some s):=ah (by rw[Ky.out,if_pos hm2]);have hP:=fI HG7.out (.string ⟨s.res.name.toArray⟩) (.slice ap s.params.length cp) (.int .i64 s.res.base) (.slice ac s.res.clause.length cc);have Ef:=eF pI (Nat.le_refl w.heap.size) (.string ⟨s.res.name.toArray⟩) (.slice ap s.params.length cp) (.int .i64 s.res.base) (.slice ac s.res.clause.length cc)
       have hsP:tY (fun b=>P b∧b<w.heap.size) (jN w7 w.heap.size (.string ⟨s.res.name.toArray⟩) (.slice ap s.params.length cp) (.int .i64 s.res.base) (.slice ac s.res.clause.length cc)) (.slice ap s.params.length cp) (.slice ac s.res.clause.length cc) s.params s.res.clause :=
        (((Tq.out.imp (Q:=fun b=>P b∧b<w.heap.size) fun b hb hl=>⟨hb,hl⟩).frame (aQ.of pI)).frame (tZ _ _ _ _ fun k hk=>by omega))
       have HP:=ah hP;have HB:=ah (And.intro Ef hsP);clear hP Ef hsP Ky hm2;go_wp2;change bodyPost _ _ _ _ _ (jN w7 w.heap.size (.string ⟨s.res.name.toArray⟩) (.slice ap s.params.length cp) (.int .i64 s.res.base) (.slice ac s.res.clause.length cc));generalize jN w7 _ _ _ _ _=w9 at *;obtain⟨⟨d0,d1,d2,d3⟩,-⟩:=fA HP.out;exact bodyPost_ret (v:=.tuple #[.agg #[.string ⟨s.res.name.toArray⟩,.slice ap s.params.length cp,.int .i64 s.res.base,.slice ac s.res.clause.length cc],.bool true]) (by simp[results,Tryz.results11,go_sem,d0,d1,d2,d3]) rfl (by rw[Zp.out];exact⟨HB.out.1,ap,cp,ac,cc,rfl,HB.out.2⟩)
      ·rw[decide_eq_false hm2] at Gl
       have Zp:Hid (R=oG nm (Au.drop (j+1))):=ah (by rw[Ky.out,if_neg hm2]);clear Ky hm2 r0 r1 r2 r3 z0 z1 z2 z3;go_wp2
       go_roundw
       case rel=>exact⟨j+1,by omega,by go_num,Zp.out,pI,HG7.out⟩
       case measure=>simp[intOf];omega
     ·obtain rfl:j=Au.length:=by omega
      have Kz:decide ((Au.length:Int)<(Au.length:Int))=false:=decide_eq_false (by omega);have HE:Hid (R=none):=ah (by rw[WU.out,List.drop_length];rfl);obtain⟨⟨r0,r1,r2,r3⟩,z0,z1,z2,z3⟩:=fA HGI.out;have HFN:=ah (FIN.out wr hbi HGI.out HE.out);clear HGI WU;go_wp2;change bodyPost _ _ _ _ _ (jN wr w.heap.size (.string ⟨#[]⟩) (.slice none 0 0) (.int .i64 0) (.slice none 0 0));generalize jN wr _ _ _ _ _=w9 at *;obtain⟨⟨d0,d1,d2,d3⟩,-⟩:=fA HFN.out.2;exact bodyPost_ret (v:=.tuple #[.agg #[.string ⟨#[]⟩,.slice none 0 0,.int .i64 0,.slice none 0 0],.bool false]) (by simp[results,Tryz.results11,go_sem,d0,d1,d2,d3]) rfl (by rw[HE.out];exact⟨HFN.out.1,rfl⟩)
   ·rw[decide_eq_false hm] at hcmp
    have HE2:Hid (R=nC md nm (fs.drop (k+1))):=ah (by rw[HE.out,if_neg hm]);clear HE hm;go_wp2
    go_roundw
    case rel=>exact⟨k+1,by omega,by go_num,HE2.out,hb5,HG5.out⟩
    case measure=>simp[intOf];omega
  ·obtain rfl:k=fs.length:=by omega
   have nJ:decide ((fs.length:Int)<(fs.length:Int))=false:=decide_eq_false (by omega);have HE:Hid (R=none):=ah (by rw[rW.out,List.drop_length];rfl);obtain⟨⟨r0,r1,r2,r3⟩,z0,z1,z2,z3⟩:=fA WI.out;have HFN:=ah (FIN.out wr hbl WI.out HE.out);clear WI rW;go_wp2;change bodyPost _ _ _ _ _ (jN wr w.heap.size (.string ⟨#[]⟩) (.slice none 0 0) (.int .i64 0) (.slice none 0 0));generalize jN wr _ _ _ _ _=w9 at *;obtain⟨⟨d0,d1,d2,d3⟩,-⟩:=fA HFN.out.2;exact bodyPost_ret (v:=.tuple #[.agg #[.string ⟨#[]⟩,.slice none 0 0,.int .i64 0,.slice none 0 0],.bool false]) (by simp[results,Tryz.results11,go_sem,d0,d1,d2,d3]) rfl (by rw[HE.out];exact⟨HFN.out.1,rfl⟩)
end Go.Proofs.YtknicmmigbhpcaaGreatDoor

namespace Go.Proofs.YtknicmmigbhpcaaGreatDoor
def uf (i k:Nat)(n:List UInt8):XQ:=⟨⟨n,10 * (i:Int)+(k:Int),[],0,0⟩,[]⟩
def jQ (i:Nat):Nat→List (List UInt8)→List XQ
 | _,[]=>[]
 | k,n :: l=>(if k % 3=i % 3 then [] else [uf i k n])++jQ i (k+1) l
def dN (ns:List (List UInt8)):Nat→List (List UInt8)→List ZFc
 | _,[]=>[]
 | i,m :: l=>⟨m,jQ i 0 ns⟩ :: dN ns (i+1) l
theorem Gm (i:Nat)(n:List UInt8):∀ (l:List (List UInt8)) (k:Nat),jQ i k (l++[n])=jQ i k l++(if (k+l.length) % 3=i % 3 then [] else [uf i (k+l.length) n])
 | [],k=>by rw[List.nil_append,jQ,jQ,jQ,List.append_nil,List.nil_append];rfl
 | x :: l,k=>by rw[List.cons_append,jQ,jQ,Gm i n l (k+1),List.append_assoc,dX,show k+1+l.length=k+(l.length+1) by omega]
theorem Sw {ns:List (List UInt8)}{i k:Nat}(h:k<ns.length):jQ i 0 (ns.take (k+1))=jQ i 0 (ns.take k)++(if k % 3=i % 3 then [] else [uf i k ns[k]]):=by
 rw[List.take_succ_eq_append_getElem h,Gm,List.length_take,Nat.min_eq_left (Nat.le_of_lt h),Nat.zero_add]
theorem DY (i:Nat):∀ (l:List (List UInt8)) (k:Nat),(jQ i k l).length≤l.length
 | [],_=>by simp[jQ]
 | x :: l,k=>by
  have:=DY i l (k+1);rw[jQ,bP,dX]
  split<;>simp<;>omega
theorem Ad (ns:List (List UInt8))(m:List UInt8):∀ (l:List (List UInt8)) (i:Nat),dN ns i (l++[m])=dN ns i l++[⟨m,jQ (i+l.length) 0 ns⟩]
 | [],i=>by rw[List.nil_append,dN,dN,dN];rfl
 | x :: l,i=>by rw[List.cons_append,dN,dN,Ad ns m l (i+1),List.cons_append,dX,show i+1+l.length=i+(l.length+1) by omega]
theorem Li {ns ms:List (List UInt8)}{i:Nat}(h:i<ms.length):dN ns 0 (ms.take (i+1))=dN ns 0 (ms.take i)++[⟨ms[i],jQ i 0 ns⟩]:=by
 rw[List.take_succ_eq_append_getElem h,Ad,List.length_take,Nat.min_eq_left (Nat.le_of_lt h),Nat.zero_add]
theorem wh (ns:List (List UInt8)):∀ (l:List (List UInt8)) (i:Nat),(dN ns i l).length=l.length
 | [],_=>rfl
 | x :: l,i=>by rw[dN,dX,wh ns l,dX]
theorem DZ (ns:List (List UInt8)):∀ (l:List (List UInt8)) (i:Nat),∀ f∈dN ns i l,f.sigs.length≤ns.length
 | [],_,f,h=>by cases h
 | x :: l,i,f,h=>by
  rw[dN] at h
  rcases List.mem_cons.1 h with rfl|h
  ·exact DY i ns 0
  ·exact DZ ns l _ f h
def nmO:Option XQ→List UInt8
 | none=>[]
 | some s=>s.res.name
def bsO:Option XQ→Int
 | none=>0
 | some s=>s.res.base
def lu (op:Nat)(nm:List UInt8)(i:Nat)(l:List (List UInt8)):List (List UInt8):=if op=22∧i=1 then l.filter fun x=>decide (x≠nm) else l
def ug (op:Nat)(nm:List UInt8):List (List UInt8)→Nat→List (List (List UInt8))→List (List UInt8)
 | acc,_,[]=>acc
 | acc,i,l :: ls=>ug op nm (bF (acc++lu op nm i l)) (i+1) ls
def iP (op:Nat)(nm:List UInt8):List (List UInt8):=if op=3 then bF [nm] else []
mutual
def PE.bI:PE→List (List UInt8)
 | .mk op nm _ _ _ _ kids _=>ug op nm (iP op nm) 0 (iQ kids)
def iQ:List PE→List (List (List UInt8))
 | []=>[]
 | e :: l=>e.bI :: iQ l
end
theorem l9:∀ l:List PE,iQ l=l.map PE.bI
 | []=>rfl
 | e :: l=>by rw[iQ,l9 l];rfl
theorem PE.Sy (e:PE):e.bI=ug e.op e.name (iP e.op e.name) 0 (e.kids.map PE.bI):=by cases e;rw[PE.bI,l9];rfl
def Oo:List (List (List UInt8))→Nat
 | []=>0
 | l :: ls=>l.length+Oo ls
theorem D5 {op:Nat}{nm:List UInt8}:∀ (ls:List (List (List UInt8))) (acc:List (List UInt8)) (i:Nat),(ug op nm acc i ls).length≤acc.length+Oo ls
 | [],acc,i=>by rw[ug,Oo];omega
 | l :: ls,acc,i=>by
  have h1:=D5 (op:=op) (nm:=nm) ls (bF (acc++lu op nm i l)) (i+1);have h2:=kY (acc++lu op nm i l)
  have h3:(lu op nm i l).length≤l.length:=by
   unfold lu
   split
   ·exact List.length_filter_le _ _
   ·exact Nat.le_refl _
  rw[bP] at h2;rw[ug,Oo];omega
mutual
def PE.iU:PE→Prop
 | .mk op _ _ _ _ _ kids _=>(op=22→kids.length≤2)∧fO kids
def fO:List PE→Prop
 | []=>True
 | e :: l=>e.iU∧fO l
end
mutual
theorem CE.iU (toks:List Tok):∀ (e:CE) (u:Nat),(e.pe toks u).iU
 | .num,u=>by rw[CE.pe,PE.iU,fO];exact⟨fun q=>by omega,trivial⟩
 | .truth,u=>by rw[CE.pe,PE.iU,fO];exact⟨fun q=>by omega,trivial⟩
 | .res,u=>by rw[CE.pe,PE.iU,fO];exact⟨fun q=>by omega,trivial⟩
 | .Jj,u=>by rw[CE.pe,PE.iU,fO];exact⟨fun q=>by omega,trivial⟩
 | .group e,u=>by rw[CE.pe];exact CE.iU toks e _
 | .un e,u=>by rw[CE.pe,PE.iU,fO,fO];exact⟨fun q=>by simp,CE.iU toks e _,trivial⟩
 | .bin a b,u=>by rw[CE.pe,PE.iU,fO,fO,fO];exact⟨fun q=>by simp,CE.iU toks a _,CE.iU toks b _,trivial⟩
 | .iff a b c,u=>by rw[CE.pe,PE.iU,fO,fO,fO,fO];exact⟨fun q=>by omega,CE.iU toks a _,CE.iU toks b _,CE.iU toks c _,trivial⟩
 | .pF a b,u=>by rw[CE.pe,PE.iU,fO,fO,fO];exact⟨fun q=>by simp,CE.iU toks a _,CE.iU toks b _,trivial⟩
 | .pG a b,u=>by rw[CE.pe,PE.iU,fO,fO,fO];exact⟨fun q=>by omega,CE.iU toks a _,CE.iU toks b _,trivial⟩
 | .call q l,u=>by
  rw[CE.pe]
  split
  ·rw[PE.iU];exact⟨fun q=>by omega,II toks l _⟩
  ·rw[PE.iU];exact⟨fun q=>by omega,II toks l _⟩
theorem II (toks:List Tok):∀ (l:List CE) (u:Nat),fO (iq toks u l)
 | [],u=>by rw[iq,fO];trivial
 | e :: l,u=>by rw[iq,fO];exact⟨CE.iU toks e _,II toks l _⟩
end
mutual
def PZ.D6:PZ→Bool
 | .mk op _ _ _ _ kids _=>decide (op=4) || PX kids
def PX:List PZ→Bool
 | []=>false
 | e :: l=>e.D6 || PX l
end
theorem Gn:∀ l:List PZ,PX l=l.any PZ.D6
 | []=>rfl
 | e :: l=>by rw[PX,List.any_cons,Gn l]
theorem PZ.WV (e:PZ):e.D6=(decide (e.op=4) || e.kids.any PZ.D6):=by cases e;rw[PZ.D6,Gn];rfl
mutual
def PZ.bI:PZ→List (List UInt8)
 | .mk op nm _ _ _ kids _=>ug op.toNat nm (iP op.toNat nm) 0 (IJ kids)
def IJ:List PZ→List (List (List UInt8))
 | []=>[]
 | e :: l=>e.bI :: IJ l
end
mutual
theorem PE.IL:∀ e:PE,e.z.bI=e.bI
 | .mk op nm md num txt yes kids a=>by rw[PE.z,PZ.bI,PE.bI,Lj kids,Int.toNat_natCast]
theorem Lj:∀ l:List PE,IJ (EW l)=iQ l
 | []=>rfl
 | e :: l=>by rw[EW,IJ,iQ,PE.IL e,Lj l]
end
def Zq (a b:List (List UInt8)):Bool:=decide ((a.filter fun x=>decide (x∈b)).length=a.length)
def Oq (names:List (List UInt8))(res:Bool)(c:PZ):Bool:=Zq (bF c.bI) names && (res || !c.D6)
def uW (base:Int)(cl:List PZ)(names:List (List UInt8))(res:Bool):Bool:=gF base cl && !(cl.any fun c=>!Oq names res c)
def XT (base:Int)(cl:List PZ):List (List UInt8)→List ZF→Bool
 | nm,[]=>uW base cl nm true
 | nm,f :: l=>dK f.name && (!decide (f.name∈nm) && (uW f.base f.clause (bF (nm++[f.name])) false && XT base cl (bF (nm++[f.name])) l))
def gX (nm:List UInt8)(ps:List ZF)(base:Int)(cl:List PZ):Bool:=dK nm && (decide (ps.length≤8) && XT base cl [] ps)
def mE (nm:List UInt8)(ps:List ZF)(base:Int)(cl:List PZ):List UInt8:=nm++[40]++bg (ps.map ZF.text)++[41,58,32]++gG base cl
def ZD.gX (d:ZD):Bool:=Go.Proofs.YtknicmmigbhpcaaGreatDoor.gX d.res.name d.params d.res.base d.res.clause
def ZD.mE (d:ZD):List UInt8:=Go.Proofs.YtknicmmigbhpcaaGreatDoor.mE d.res.name d.params d.res.base d.res.clause
end Go.Proofs.YtknicmmigbhpcaaGreatDoor
