/- Walks and plain laws: ScopeW9, ScopeInv. -/
import Derived.Test.YtknicmmigbhpcaaGreatDoorF33
import Derived.Deep.RegionHeldLaw
set_option maxHeartbeats 16000000
set_option maxRecDepth 100000
set_option linter.unusedVariables false
set_option linter.unusedSimpArgs false
namespace Go.Proofs.YtknicmmigbhpcaaGreatDoor
open Go.RowKit Go
theorem Tryz.XY:(Tryz.prog.info? 96).map (fun i=>(i.zero,i.size,i.bytes))=some (some (.agg #[.string ⟨#[]⟩,.int .i64 0,.slice none 0 0]),3,48):=by kernel_rfl
theorem Tryz.XZ:∀ args w,(callFunc 38 args).run Tryz.prog w=.ok (.enter 38 args) w:=Go.Proofs.enters_of Tryz.func38 (by kernel_rfl) rfl
def Rp (P:Nat→Prop)(d:ZD)(w:World)(e:Ending)(w':World):Prop:=∃ a c ac cc,e=.returned (.agg #[.string ⟨d.res.name.toArray⟩,.slice a d.params.length c,.int .i64 d.res.base,.slice ac d.res.clause.length cc])∧MU (fun b=>(P b∧b<w.heap.size)∨w.heap.size≤b) w' (.slice a d.params.length c) (.slice ac d.res.clause.length cc) d.params d.res.clause∧Below w.heap.size w w'
theorem MV {P:Nat→Prop}{w:World}{v:Value}{ks:List PZ}(h:RowK (ZK YA) P w v ks):∃ l:List (PZ × (Value × Value)),l.map Prod.fst=ks∧mo P w v 8 ks.length ((ZK YA).flat l)∧(∀ u∈(ZK YA).flat l,u.oneCell'=true)∧∀ p∈l,nM YA P w p.2.1 p.2.2 p.1:=by
 obtain⟨l,h1,h2,h3⟩:=h;refine⟨l,h1,h2,fun u hu=>?_,h3⟩;obtain⟨⟨e,m,k⟩,hp,hq⟩:=List.mem_flatMap.1 hu;have he:nM YA P w m k e:=h3 _ hp;obtain⟨am,wn,cm,ae,ce,rfl,rfl⟩:=he.ZE;simp only[ZK,YA,List.mem_cons,List.not_mem_nil,or_false] at hq
 rcases hq with rfl|rfl|rfl|rfl|rfl|rfl|rfl|rfl<;>rfl
theorem Et {P Q R:Nat→Prop}{w w':World}{v':Value}{ks:List PZ}{l:List (PZ × (Value × Value))}(h1:l.map Prod.fst=ks)(h2:mo Q w' v' 8 ks.length ((ZK YA).flat l))(h3:∀ p∈l,nM YA P w p.2.1 p.2.2 p.1)(hA:aT P w w')(hQ:∀ b,Q b→b<w'.heap.size→R b)(hP:∀ b,P b→b<w.heap.size→R b):RowK (ZK YA) R w' v' ks :=
 ⟨l,h1,h2.imp hQ,fun p hp=>((h3 p hp).imp (Q:=fun b=>P b∧R b) fun b hb hl=>⟨hb,hP b hb hl⟩).frame ⟨hA.1,fun b hb hl=>hA.2 b hb.1 hl⟩ |>.imp fun b hb _=>hb.2⟩
theorem Eu {P:Nat→Prop}{w:World}{b:Nat}(v0 v1 v2 v3:Value)(h:∀ k,P k→k≠b):aT P w (sU w b v0 v1 v2 v3) :=
 (((aT.set (a:=⟨b,0,none⟩) v0 h).trans (aT.set (a:=⟨b,1,none⟩) v1 h)).trans (aT.set (a:=⟨b,2,none⟩) v2 h)).trans (aT.set (a:=⟨b,3,none⟩) v3 h)
theorem Ul (P:Nat→Prop)(d:ZD)(ap:Option Addr)(cp:Nat)(ac:Option Addr)(cc:Nat)(am:Option Addr)(wn cm:Nat)(ae:Option Addr)(ce:Nat)(w:World)(hfit:d.pq)
  (hP:RowK ZFK P w (.slice ap d.params.length cp) d.params) (hC:RowK (ZK YA) P w (.slice ac d.res.clause.length cc) d.res.clause) :
  Calls Tryz.prog 13 #[.agg (iY d ap cp ac cc am wn cm ae ce)] w (Rp P d w):=by
 have hal:=(aj w (.cells (iY d ap cp ac cc am wn cm ae ce) 48)).alloc (by simp) (.cells #[.string ⟨#[]⟩,.slice none 0 0,.int .i64 0,.slice none 0 0] 31);have g0:=(Lib.alloc_old (w.alloc (.cells (iY d ap cp ac cc am wn cm ae ce) 48)) (.cells #[.string ⟨#[]⟩,.slice none 0 0,.int .i64 0,.slice none 0 0] 31) w.heap.size (by simp)).trans (heap_alloc_new w (.cells (iY d ap cp ac cc am wn cm ae ce) 48));have g1:=heap_alloc_new (w.alloc (.cells (iY d ap cp ac cc am wn cm ae ce) 48)) (.cells #[.string ⟨#[]⟩,.slice none 0 0,.int .i64 0,.slice none 0 0] 31);rw[World.size_alloc] at g1;obtain⟨ae',ce',hv,_,hform⟩:=hP.form;simp only[Value.slice.injEq] at hv;obtain⟨rfl,-,rfl⟩:=hv;have hPR:=hP;obtain⟨lc,hlc,hcs1,hcs2,adG⟩:=MV hC
 obtain⟨cs,abW⟩:∃ cs,cs=(ZK YA).flat lc:=⟨_,rfl⟩
 rw[← abW] at hcs1 hcs2;have HCS:=ah (And.intro hlc (And.intro abW adG));have hpn:=hfit.kJ;have hcn:=hfit.cl.1;have NV:=ah (fun W (hW:Below w.heap.size w W)=>DN P _ _ cs W (hcs1.frame (aT.of hW)) hcs2 (by omega));have HF:=ah hform;have DJ:=ah hfit;clear hform hP hC hfit hcs1 hcs2 adG hlc abW hPR;go_enter Tryz.func13,Tryz.ntmps13
 go_upto_region 1 with fail
 change Code.wp _ _ _ _ ((w.alloc (.cells (iY d ap cp ac cc am wn cm ae ce) 48)).alloc (.cells #[.string ⟨#[]⟩,.slice none 0 0,.int .i64 0,.slice none 0 0] 31));generalize (w.alloc (.cells (iY d ap cp ac cc am wn cm ae ce) 48)).alloc (.cells #[.string ⟨#[]⟩,.slice none 0 0,.int .i64 0,.slice none 0 0] 31)=w1 at *;have hz1:=hal.size;have hl1:=(bQ g1).1;obtain⟨y0,y1,y2,y3,y4,y5,y6,y7,y8,y9,rA,rC,rD,y13,Xi⟩:=aS g0;have HG:=ah (And.intro g0 g1)
 have hn1:w.heap.size≠w1.heap.size:=by omega
 clear g0 g1
 go_cut [3] (fun p wc=>∃ (Y:Nat) (a3:Option Addr) (c3:Nat),p=.pointer (some ⟨Y,0,none⟩)∧wc.heap[Y]?=some (.cells #[.string ⟨d.res.name.toArray⟩,.slice none 0 0,.int .i64 d.res.base,.slice a3 d.res.clause.length c3] 31 (0,0))∧w1.heap.size≤Y∧Below w1.heap.size w1 wc∧mo (fun b=>w1.heap.size≤b∧b≠Y) wc (.slice a3 d.res.clause.length c3) 8 d.res.clause.length cs)
 case first =>
  go_region_held3 (fun W=>W.cell? ⟨w.heap.size,1,none⟩=some (.string ⟨d.res.name.toArray⟩)∧W.cell? ⟨w.heap.size,3,none⟩=some (.int .i64 d.res.base)∧W.cell? ⟨w.heap.size,4,none⟩=some (.slice ac d.res.clause.length cc))
   (first|(with_reducible exact p3)|(with_reducible exact And.intro ((kP w2 w1.heap.size w.heap.size 1 _ _ _ _ hn1).trans p3.1) (And.intro ((kP w2 w1.heap.size w.heap.size 3 _ _ _ _ hn1).trans p3.2.1) ((kP w2 w1.heap.size w.heap.size 4 _ _ _ _ hn1).trans p3.2.2)))|(go_keep;done))
   (first|(go_at_call 38;refine(NV.out _ ?_).mono ?_;(first|exact hal.drew|exact(hal.alloc hz1 _).drew);rintro e w2 ⟨a3,c3,rfl,hsl2,hb2⟩;have hq2:Below w1.heap.size w1 w2:=(by first|exact(Below.refl _ _).drew.trans hb2|exact((Below.refl _ _).alloc (Nat.le_refl _) _).drew.trans (hb2.mono (by simp)));have p3:=And.intro (cell_later hq2 y1) (And.intro (cell_later hq2 y3) (cell_later hq2 y4));try (have hT:=(hb2.block w1.heap.size (by simp)).trans (heap_alloc_new w1 (.cells #[.string ⟨#[]⟩,.slice none 0 0,.int .i64 0,.slice none 0 0] 31));obtain⟨⟨t0,t1,t2,t3⟩,g0,g1,g2,g3⟩:=oO hT)))
  ·clear p3
   go_wp2_with fail
   go_meet
   exact⟨w2.heap.size,a3,c3,rfl,heap_alloc_new w2 _,hq2.size,hq2.alloc hq2.size _,((hsl2.imp (Q:=fun b=>w1.heap.size≤b∧b≠w2.heap.size) fun b hb hl=>⟨hb,by omega⟩).frame (aT.of (aj w2 _)))⟩
  ·clear p3
   go_wp2_with fail
   go_meet
   exact⟨w1.heap.size,a3,c3,rfl,kG hT (.string ⟨d.res.name.toArray⟩) (.slice none 0 0) (.int .i64 d.res.base) (.slice a3 d.res.clause.length c3),Nat.le_refl _,jg hq2 (Nat.le_refl _) (.string ⟨d.res.name.toArray⟩) (.slice none 0 0) (.int .i64 d.res.base) (.slice a3 d.res.clause.length c3),((hsl2.imp (Q:=fun b=>w1.heap.size≤b∧b≠w1.heap.size) fun b hb hl=>by have h9:w1.heap.size+1≤b:=(by simpa using hb);omega).frame (Eu _ _ _ _ fun k hk=>hk.2))⟩
 case rest =>
  obtain⟨Y,a3,c3,rfl,hY,hYw,hqc,hsl⟩:=hcut
  obtain⟨w2,rfl⟩:∃ w2:World,w2=wc:=⟨_,rfl⟩
  clear y0 y1 y2 y3 y4 y5 y6 y7 y8 y9 rA rC rD y13 Xi;have gd2:=(hqc.block _ (by omega)).trans HG.out.1;have gr2:=(hqc.block _ hl1).trans HG.out.2;have hzc:=hqc.size;have aeZ:=(bQ hY).1;have hbw2:=hal.trans (hqc.mono hz1);obtain⟨y0,y1,y2,y3,y4,y5,y6,y7,y8,y9,rA,rC,rD,y13,Xi⟩:=aS gd2;have UO:=ah gr2;have HY2:=ah hY;obtain⟨i0,hi,hz0,hz1',hz2⟩:=info_parts Tryz.XY;clear gd2 gr2 hY HG;generalize hps:d.params=ps at *;generalize hrn:d.res.name=rn at *;generalize hrb:d.res.base=rb at *;generalize hrl:d.res.clause.length=rl at *;have HRN:=ah (And.intro hrn (And.intro hrb hrl));have HSL:=ah hsl;have ae0:Y<w2.heap.size:=aeZ;clear hsl;clear hrn hrb hrl;go_wp2;clear y0 y1 y2 y3 y4 y5 y6 y7 y8 y9 rA rC rD y13 Xi
  go_loopw [5,17] (fun _ q wr=>∃ (k:Nat) (ak:Option Addr) (ck:Nat),k≤ps.length∧q=.int .i64 k∧wr.heap[Y]?=some (.cells #[.string ⟨rn.toArray⟩,.slice ak k ck,.int .i64 rb,.slice a3 rl c3] 31 (0,0))∧pJ MS (fun b=>(P b∧b<w.heap.size)∨w2.heap.size≤b) w2.heap.size 96 wr (.slice ak k ck) (ps.take k)∧wr.heap[w.heap.size+1]?=some (.cells #[.string ⟨#[]⟩,.slice none 0 0,.int .i64 0,.slice none 0 0] 31 (0,0))∧Below w.heap.size w wr∧aT (fun b=>b<w2.heap.size∧b≠Y) w2 wr) (fun _ q _=>ps.length - (intOf q).toNat)
  case atStart=>exact⟨0,none,0,Nat.zero_le _,rfl,HY2.out,by rw[List.take_zero];exact pJ.nil _ _ _ _ _,UO.out,hbw2,aT.refl _ _⟩
  case round =>
   obtain⟨k,ak,ck,hk,rfl,hYr,aaP,hgr,hbl,fO⟩:=hrel;have ae1:=fO.1;have af8:w1.heap.size≤wr.heap.size:=Nat.le_trans hzc ae1;have HQ:=ah aaP;obtain⟨Jj,hr1,hown,hes⟩:=aaP
   have hlk:(ps.take k).length=k:=by rw[List.length_take,Nat.min_eq_left hk]
   rw[hlk] at hown;have hown:wr.ownsRow w2.heap.size 96 3 (.slice ak k ck) k (MS.flat Jj):=hown;have Y6:=ah (And.intro hr1 (And.intro hes (And.intro hlk fO)));generalize hxs:MS.flat Jj=xs at hown;have HXS:=ah hxs;clear hes hr1 hlk fO hxs;have I6:=hbl.size;have hYl:=(bQ hYr).1;have hgl:=(bQ hgr).1;have HYR:=ah hYr;have HO:=ah hown;have HOW:=HO;have X3:=ah hgr;clear hYr hown hgr
   by_cases hlt:k<ps.length
   ·obtain⟨b,off,rfl,hPb,hbw,nN⟩:=HF.out (by omega)
    obtain⟨cv,hcl,hc⟩:=nN k hlt;obtain⟨a2,c2,rfl⟩:=RowK.slice hcl;obtain⟨l2,hl2,hs1,hs2,hs3⟩:=MV hcl
    obtain⟨cs2,X4⟩:∃ cs2,cs2=(ZK YA).flat l2:=⟨_,rfl⟩
    rw[← X4] at hs1 hs2;have htk:=List.take_succ_eq_append_getElem hlt;have HL2:=ah (And.intro hl2 (And.intro X4 (And.intro hs3 htk)));clear hl2 X4 hs3 htk;have hpf:=DJ.out.pcl _ (by rw[hps];exact List.getElem_mem hlt);have x0:=(hbl.cell (p:=⟨b,off+k * 5+0,none⟩) hbw).trans (hc 0 _ rfl);have x1:=(hbl.cell (p:=⟨b,off+k * 5+1,none⟩) hbw).trans (hc 1 _ rfl);have x2:=(hbl.cell (p:=⟨b,off+k * 5+2,none⟩) hbw).trans (hc 2 _ rfl);have x3:=(hbl.cell (p:=⟨b,off+k * 5+3,none⟩) hbw).trans (hc 3 _ rfl);have x4:=(hbl.cell (p:=⟨b,off+k * 5+4,none⟩) hbw).trans (hc 4 _ rfl);rw[Nat.add_zero] at x0;simp only[dM] at x0;have hpc:=hpf.1;clear nN hcl hc hpf;generalize ps[k]=p at *;have gI:=aj wr (.cells #[.string ⟨p.name.toArray⟩,.int .i64 p.base,.slice a2 p.clause.length c2,.int .i64 p.at_,.int .i64 p.bare] 80);have gk:=heap_alloc_new wr (.cells #[.string ⟨p.name.toArray⟩,.int .i64 p.base,.slice a2 p.clause.length c2,.int .i64 p.at_,.int .i64 p.bare] 80)
    have pQ:(k:Int)<(ps.length:Int):=by omega
    go_upto_region 5 with fail
    change Code.wp _ _ _ _ (wr.alloc (.cells #[.string ⟨p.name.toArray⟩,.int .i64 p.base,.slice a2 p.clause.length c2,.int .i64 p.at_,.int .i64 p.bare] 80));clear x0 x1 x2 x3 x4
    have ae3:wr.heap.size<(wr.alloc (.cells #[.string ⟨p.name.toArray⟩,.int .i64 p.base,.slice a2 p.clause.length c2,.int .i64 p.at_,.int .i64 p.bare] 80)).heap.size:=by simp
    generalize wr.alloc (.cells #[.string ⟨p.name.toArray⟩,.int .i64 p.base,.slice a2 p.clause.length c2,.int .i64 p.at_,.int .i64 p.bare] 80)=w3 at *;have hz3:=gI.size;have HCK:=ah (fun W (hW:Below w3.heap.size w3 W)=>DN P _ _ cs2 W (hs1.frame (aT.of (hbl.trans ((gI.trans (hW.mono hz3)).mono I6)))) hs2 (by omega));have HY3:=ah ((gI.block Y hYl).trans HYR.out);have Zk:=ah (own_below HO.out gI);have HG3:=ah ((gI.block _ hgl).trans X3.out);have HGK:=ah gk
    have HS:Hid (∀ W,aT (fun b=>b=wr.heap.size) w3 W→(W.cell? ⟨wr.heap.size,0,none⟩=some (.string ⟨p.name.toArray⟩)∧W.cell? ⟨wr.heap.size,1,none⟩=some (.int .i64 p.base)∧W.cell? ⟨wr.heap.size,2,none⟩=some (.slice a2 p.clause.length c2))):=ah fun W hW=>by
     obtain⟨q0,q1,q2,_,_⟩:=dK ((hW.2 _ rfl ae3).trans HGK.out);exact⟨q0,q1,q2⟩
    have ae4:some wr.heap.size≠(Value.slice ak k ck).ownBlock:=own_ne Zk.out HGK.out (by decide);have HC:=ah (HCK.out w3.drew (Below.refl _ _).drew);have ae5:=Tryz.XZ;have p3:=HS.out w3.drew (aT.of (Below.refl _ _).drew);obtain⟨t0,t1,t2,t3⟩:=(oO HY3.out).1
    have abD:Y<w3.heap.size:=by omega
    have ae6:w.heap.size+1<w3.heap.size:=by omega
    have hne:wr.heap.size≠Y:=by omega
    clear gk hs1 HYR HO X3 HCK;refine wp_region_held_drew (S:=(fun W=>W.cell? ⟨wr.heap.size,0,none⟩=some (.string ⟨p.name.toArray⟩)∧W.cell? ⟨wr.heap.size,1,none⟩=some (.int .i64 p.base)∧W.cell? ⟨wr.heap.size,2,none⟩=some (.slice a2 p.clause.length c2))) (by kernel_rfl) p3 (fun hHeld=>?_);refine wpAnyH_take (i:=0) (oi:=⟨some 21,_,_,_,_,_⟩) (v:=?_) rfl (by kernel_rfl) (by kernel_rfl) (by kernel_rfl) (fun _ _ _ h=>h) (Or.inl ⟨by rfl,?_⟩) hHeld ?_
    rotate_left
    ·intro w hSw;(try dsimp only at hSw);go_simp;try (with_reducible rfl)
    simp only[Act.put,List.setIfInBounds_toArray,List.set_cons_zero,List.set_cons_succ];refine wpAnyH_take (i:=2) (oi:=⟨some 23,_,_,_,_,_⟩) (v:=?_) rfl (by kernel_rfl) (by kernel_rfl) (by kernel_rfl) (fun _ _ _ h=>h) (Or.inl ⟨by rfl,?_⟩) hHeld ?_
    rotate_left
    ·intro w hSw;(try dsimp only at hSw);go_simp;try (with_reducible rfl)
    simp only[Act.put,List.setIfInBounds_toArray,List.set_cons_zero,List.set_cons_succ];refine wpAnyH_take (i:=3) (oi:=⟨some 24,_,_,_,_,_⟩) (v:=?_) rfl (by kernel_rfl) (by kernel_rfl) (by kernel_rfl) (fun _ _ _ h=>h) (Or.inl ⟨by rfl,?_⟩) hHeld ?_
    rotate_left
    ·intro w hSw;(try dsimp only at hSw);go_simp;try (with_reducible rfl)
    simp only[Act.put,List.setIfInBounds_toArray,List.set_cons_zero,List.set_cons_succ];refine wpAnyH_take (i:=4) (oi:=⟨some 25,_,_,_,_,_⟩) (v:=?_) rfl (by kernel_rfl) (by kernel_rfl) (by kernel_rfl) (fun _ _ _ h=>h) (Or.inl ⟨by rfl,?_⟩) hHeld ?_
    rotate_left
    ·intro w hSw;(try dsimp only at hSw);go_simp;try (with_reducible rfl)
    simp only[Act.put,List.setIfInBounds_toArray,List.set_cons_zero,List.set_cons_succ];refine wpAnyH_take (i:=5) (oi:=⟨some 26,_,_,_,_,_⟩) (v:=?_) rfl (by kernel_rfl) (by kernel_rfl) (by kernel_rfl) (fun _ _ _ h=>h) (Or.inl ⟨by rfl,?_⟩) hHeld ?_
    rotate_left
    ·intro w hSw;(try dsimp only at hSw);go_simp;try (with_reducible rfl)
    simp only[Act.put,List.setIfInBounds_toArray,List.set_cons_zero,List.set_cons_succ];refine wpAnyH_take (i:=6) (oi:=⟨some 27,_,_,_,_,_⟩) (v:=?_) rfl (by kernel_rfl) (by kernel_rfl) (by kernel_rfl) (fun _ _ _ h=>h) (Or.inl ⟨by rfl,?_⟩) hHeld ?_
    rotate_left
    ·intro w hSw;(try dsimp only at hSw);go_simp;try (with_reducible rfl)
    simp only[Act.put,List.setIfInBounds_toArray,List.set_cons_zero,List.set_cons_succ];refine wpAnyH_take (i:=7) (oi:=⟨some 28,_,_,_,_,_⟩) (v:=?_) rfl (by kernel_rfl) (by kernel_rfl) (by kernel_rfl) (fun _ _ _ h=>h) (Or.inl ⟨by rfl,?_⟩) hHeld ?_
    rotate_left
    ·intro w hSw;(try dsimp only at hSw);go_simp;try (with_reducible rfl)
    simp only[Act.put,List.setIfInBounds_toArray,List.set_cons_zero,List.set_cons_succ];refine wpAnyH_ready (rs:=[1,8]) (by kernel_rfl) (by simp) (AllReadyH.cons (o:=⟨some 22,_,_,_,_,_⟩) rfl (fun K hK=>?_) (AllReadyH.cons (o:=⟨some 29,_,_,_,_,_⟩) rfl (fun K hK=>?_) AllReadyH.nil));go_simp;refine hK.out _ _ (hHeld) (fun hHeld=>?_);clear hK K;refine wpAnyH_ready (rs:=[8]) (by kernel_rfl) (by simp) (AllReadyH.cons (o:=⟨some 29,_,_,_,_,_⟩) rfl (fun K hK=>?_) AllReadyH.nil)
    all_goals
     refine uX rfl 38 _ _ rfl HC.out (by rfl) (ae5 _ _) ?_;rintro e w5 ⟨a5,c5,rfl,ae7,hb5⟩;refine⟨_,rfl,?_⟩;have vJ:Below w3.heap.size w3 w5:=(Below.refl w3.heap.size w3).drew.trans hb5;have hY5:=(vJ.block Y abD).trans HY3.out;have r52:=(oO hY5).1.2.1;have r53:=fun o=>Lib.cell?_alloc_some o r52;have al5:aT (fun b=>b=wr.heap.size) w3 w5:=aT.of vJ;have p3:=HS.out _ al5;have p3a:=fun o=>HS.out (w5.alloc o) (al5.trans (aT.of (aj w5 o)))
     refine hK.out _ _ (p3) (fun hHeld=>?_);clear hK K
    all_goals
     refine wpAnyH_take (i:=9) (oi:=⟨some 30,_,_,_,_,_⟩) (v:=?_) rfl (by kernel_rfl) (by kernel_rfl) (by kernel_rfl) (fun _ _ _ h=>h) (Or.inl ⟨by rfl,?_⟩) hHeld ?_;rotate_left
     ·intro w hSw;(try dsimp only at hSw);go_simp;try (with_reducible rfl)
     simp only[Act.put,List.setIfInBounds_toArray,List.set_cons_zero,List.set_cons_succ]
    rotate_left 1;refine wpAnyH_ready (rs:=[1,10]) (by kernel_rfl) (by simp) (AllReadyH.cons (o:=⟨some 22,_,_,_,_,_⟩) rfl (fun K hK=>?_) (AllReadyH.cons (o:=⟨some 31,_,_,_,_,_⟩) rfl (fun K hK=>?_) AllReadyH.nil));rotate_right 1
    rotate_left 1;go_simp;refine hK.out _ _ (hHeld) (fun hHeld=>?_);clear hK K;refine wpAnyH_ready (rs:=[10]) (by kernel_rfl) (by simp) (AllReadyH.cons (o:=⟨some 31,_,_,_,_,_⟩) rfl (fun K hK=>?_) AllReadyH.nil);rotate_right 1
    refine wpAnyH_ready (rs:=[10]) (by kernel_rfl) (by simp) (AllReadyH.cons (o:=⟨some 31,_,_,_,_,_⟩) rfl (fun K hK=>?_) AllReadyH.nil)
    all_goals
     go_simp;refine hK.out _ _ (p3a _) (fun hHeld=>?_);clear hK K
    rotate_left 2;refine wpAnyH_ready (rs:=[1]) (by kernel_rfl) (by simp) (AllReadyH.cons (o:=⟨some 22,_,_,_,_,_⟩) rfl (fun K hK=>?_) AllReadyH.nil);go_simp;refine hK.out _ _ (hHeld) (fun hHeld=>?_);clear hK K;rotate_right 2
    all_goals refine wpAnyH_ready (rs:=[11]) (by kernel_rfl) (by simp) (AllReadyH.cons (o:=⟨some 32,_,_,_,_,_⟩) rfl (fun K hK=>?_) AllReadyH.nil)
    all_goals
     refine step_append_lies _ (by rfl) _ _ _ (by rfl) w2.heap.size 96 i0 _ 3 48 Tryz.underlying28 hi hz0 hz1' hz2 rfl (by omega) (.slice ak k ck) k _ (by rfl) ((own_below Zk.out vJ).alloc _) ⟨w5.heap.size,0,none⟩ 1 1 [.string ⟨p.name.toArray⟩,.int .i64 p.base,.slice a5 p.clause.length c5] (by rfl) (by rfl) (World.news_of_block (cs:=#[.string ⟨p.name.toArray⟩,.int .i64 p.base,.slice a5 p.clause.length c5]) (t:=96) (fr:=(0,0)) (heap_alloc_new w5 _)) (by simp[Value.oneCell']) (by omega) (by unfold maxLen;omega) (by omega) (by have:=vJ.size;simp;omega) (w5.heap.size+1) (by simp) ?_;intro gg cap6 w6 hown6 lT VO VP;have hY6:=gZ ((own_below Zk.out vJ).alloc _) lT ((Lib.alloc_old w5 _ Y (by have:=vJ.size;omega)).trans hY5) (by decide);have hG6:=gZ ((own_below Zk.out vJ).alloc _) lT ((Lib.alloc_old w5 _ _ (by have:=vJ.size;omega)).trans ((vJ.block _ ae6).trans HG3.out)) (by decide);have r65:=(oO hY6).1.2.1;have z65:=(oO hY6).2.2.1;have al6:=(al5.trans (aT.of (aj w5 _))).trans (aT.grown lT fun b hb q=>ae4 (by rw[← hb];exact q));have p3:=HS.out _ al6;have p3a:=fun v=>HS.out (w6.setCell ⟨Y,1,none⟩ v) (al6.trans (aT.set v fun b hb=>by rw[hb];exact hne))
     refine hK.out _ _ (p3) (fun hHeld=>?_);clear hK K
    all_goals
     refine wpAnyH_take (i:=12) (oi:=⟨some 33,_,_,_,_,_⟩) (v:=?_) rfl (by kernel_rfl) (by kernel_rfl) (by kernel_rfl) (fun _ _ _ h=>h) (Or.inl ⟨by rfl,?_⟩) hHeld ?_;rotate_left
     ·intro w hSw;(try dsimp only at hSw);go_simp;try (with_reducible rfl)
     simp only[Act.put,List.setIfInBounds_toArray,List.set_cons_zero,List.set_cons_succ]
    all_goals refine wpAnyH_ready (rs:=[13]) (by kernel_rfl) (by simp) (AllReadyH.cons (o:=⟨none,_,_,_,_,_⟩) rfl (fun K hK=>?_) AllReadyH.nil)
    all_goals
     go_simp;refine hK.out _ _ (p3a _) (fun hHeld=>?_);clear hK K
    all_goals refine wpAnyH_done (by kernel_rfl) ?_ _
    all_goals
     have hx5:RowK (ZK YA) (fun b=>((P b∧b<w.heap.size)∨w2.heap.size≤b)∧some b≠(Value.slice ak k ck).ownBlock) w5 (.slice a5 p.clause.length c5) p.clause :=
      Et HL2.out.1 (by rw[← HL2.out.2.1];exact ae7) HL2.out.2.2.1 (aT.of ((hbl.trans ((gI.trans (vJ.mono hz3)).mono I6)))) (fun b hb _=>⟨.inr (by have h9:w3.heap.size≤b:=hb;omega),fun q=>by have h8:=(Zk.out.lt b q.symm).2;have h9:w3.heap.size≤b:=hb;omega⟩) (fun b hb hl=>⟨.inl ⟨hb,hl⟩,fun q=>by have h8:=(Zk.out.lt b q.symm).1;omega⟩)
     obtain⟨q1,q2,q3⟩:=pJ.round (K:=MS) (Q:=fun b=>(P b∧b<w.heap.size)∨w2.heap.size≤b) (wr:=wr) (kv:=.slice ak k ck) (UL:=.slice (some ⟨gg,0,none⟩) (k+1) cap6) (acc:=ps.take k) (a:=p) (x:=.slice a5 p.clause.length c5) (l:=Jj) Y6.out.2.2.2 ae0 (fun q=>by rcases q with q|q<;>omega) Y6.out.1 (by rw[Y6.out.2.2.1];rw[← HXS.out] at HOW;exact HOW.out) Y6.out.2.1 hx5 (gI.trans (vJ.mono hz3)) (by rw[Y6.out.2.2.1,HXS.out];exact hown6) lT rfl VO 1 (.slice (some ⟨gg,0,none⟩) (k+1) cap6);rw[← HL2.out.2.2.2] at q1;have HE:=ah (And.intro (heap_setCell_same w6 Y 1 _ _ (.slice (some ⟨gg,0,none⟩) (k+1) cap6) hY6) (And.intro q1 (And.intro ((heap_setCell_other w6 ⟨Y,1,none⟩ (w.heap.size+1) (.slice (some ⟨gg,0,none⟩) (k+1) cap6) (by show w.heap.size+1≠Y;omega)).trans hG6) (And.intro (q3 w.heap.size w (by omega) hbl) q2))));clear q1 q2 q3 hx5;clear p3 p3a al6 al5 r65 z65 r52 r53 hY6 hG6 lT hown6 VO VP hY5 hb5 t0 t1 t2 t3 hHeld;go_wp2_with fail
     go_roundw
     case rel=>exact⟨k+1,some ⟨gg,0,none⟩,cap6,by omega,by go_num,HE.out.1,HE.out.2.1,HE.out.2.2.1,HE.out.2.2.2.1,HE.out.2.2.2.2⟩
     case measure=>simp[intOf];omega
   ·obtain rfl:k=ps.length:=by omega
    have pQ:decide ((ps.length:Int)<(ps.length:Int))=false:=decide_eq_false (by omega);obtain⟨⟨t0,t1,t2,t3⟩,-⟩:=oO HYR.out;obtain⟨⟨c0,c1,c2,c3'⟩,f0,f1,f2,f3⟩:=oO X3.out;have hP:=kG X3.out (.string ⟨rn.toArray⟩) (.slice ak ps.length ck) (.int .i64 rb) (.slice a3 rl c3);have Sb:=jg hbl (by omega:w.heap.size≤w.heap.size+1) (.string ⟨rn.toArray⟩) (.slice ak ps.length ck) (.int .i64 rb) (.slice a3 rl c3)
    have hSG:MU (fun b=>(P b∧b<w.heap.size)∨w.heap.size≤b) (sU wr (w.heap.size+1) (.string ⟨rn.toArray⟩) (.slice ak ps.length ck) (.int .i64 rb) (.slice a3 rl c3)) (.slice ak ps.length ck) (.slice a3 rl c3) ps d.res.clause:=by
     have h7:=HQ.out;rw[List.take_length] at h7;refine⟨((h7.row (R:=fun b=>(P b∧b<w.heap.size)∨w2.heap.size≤b) (fun _ q=>.inr q) (fun _ q _=>q)).frame (Eu _ _ _ _ fun k hk=>by rcases hk with hk|hk<;>omega)).imp fun b hb _=>by rcases hb with hb|hb;exact .inl hb;exact .inr (by omega),?_⟩
     have h81:mo (fun b=>(w1.heap.size≤b∧b≠Y)∧(b<w2.heap.size∧b≠Y)) w2 (.slice a3 rl c3) 8 rl cs:=HSL.out.imp fun b hb hl=>⟨hb,hl,hb.2⟩
     have h82:=h81.frame (w':=wr) ⟨Y6.out.2.2.2.1,fun b hb hl=>Y6.out.2.2.2.2 b hb.2 hl⟩
     have h8:mo (fun b=>w1.heap.size≤b∧b≠Y) wr (.slice a3 rl c3) 8 rl cs:=h82.imp fun b hb _=>hb.1
     have h9:RowK (ZK YA) (fun b=>(P b∧b<w.heap.size)∨w1.heap.size≤b) wr (.slice a3 rl c3) d.res.clause:=Et (Q:=fun b=>w1.heap.size≤b∧b≠Y) HCS.out.1 (by rw[← HCS.out.2.1,HRN.out.2.2];exact h8) HCS.out.2.2 (aT.of hbl) (fun b hb _=>.inr hb.1) (fun b hb hl=>.inl ⟨hb,hl⟩)
     exact(h9.frame (Eu _ _ _ _ fun k hk=>by rcases hk with hk|hk<;>omega)).imp fun b hb _=>by rcases hb with hb|hb;exact .inl hb;exact .inr (by omega)
    have HSG:=ah hSG;clear hSG;have HP:=ah hP;have HB:=ah Sb;clear hP Sb HYR X3 HO;go_wp2;change bodyPost _ _ _ _ _ (sU wr (w.heap.size+1) (.string ⟨rn.toArray⟩) (.slice ak ps.length ck) (.int .i64 rb) (.slice a3 rl c3));generalize sU wr _ _ _ _ _=w4 at *;obtain⟨⟨d0,d1,d2,d3⟩,-⟩:=oO HP.out;exact bodyPost_ret (v:=.agg #[.string ⟨rn.toArray⟩,.slice ak ps.length ck,.int .i64 rb,.slice a3 rl c3]) (by simp[results,Tryz.results13,go_sem,d0,d1,d2,d3]) rfl ⟨ak,ck,a3,c3,by rw[HRN.out.1,HRN.out.2.1,HRN.out.2.2,hps],by rw[hps,HRN.out.2.2];exact HSG.out,HB.out⟩
theorem yM (l:List ZD)(d:ZD)(nm:List UInt8):gB (l++[d]) nm=(gB l nm).or (if d.res.name=nm then some d.params.length else none):=by
 unfold gB;rw[List.find?_append]
 cases l.find? fun d=>decide (d.res.name=nm) with
 | some x=>rfl
 | none =>
  rw[Option.none_or,List.find?_cons,List.find?_nil]
  by_cases h:d.res.name=nm
  ·rw[decide_eq_true h,if_pos h];rfl
  ·rw[decide_eq_false h,if_neg h];rfl
theorem Jl {l:List ZD}{nm:List UInt8}(h:nm ∉ l.map (fun d=>d.res.name)):gB l nm=none:=by
 unfold gB;rw[List.find?_eq_none.2 fun d hd=>by simpa using fun q=>h (by rw[← q];exact List.mem_map_of_mem hd)]
 rfl
theorem Jm {l:List ZD}{nm:List UInt8}(h:nm∈l.map (fun d=>d.res.name)):(gB l nm).isSome=true:=by
 obtain⟨d,hd,rfl⟩:=List.mem_map.1 h;unfold gB;rw[Option.isSome_map,List.find?_isSome];exact⟨d,hd,by simp⟩
structure lZ (ml:ML) (l:List ZD):Prop where
 ar:∀ nm,abB (qE ml nm) (gB l nm)
 has:∀ nm,pK ml nm=decide (nm∈l.map fun d=>d.res.name)
theorem lZ.nil:lZ [] []:=⟨fun _=>trivial,fun _=>rfl⟩
theorem lZ.same {ml:ML}{l:List ZD}{d:ZD}(h:lZ ml l)(hd:pK ml d.res.name=true):lZ ml (l++[d]):=by
 have hm:d.res.name∈l.map fun d=>d.res.name:=by
  have:=h.has d.res.name;rw[hd] at this;exact of_decide_eq_true this.symm
 refine⟨fun nm=>?_,fun nm=>?_⟩
 ·rw[yM]
  by_cases q:d.res.name=nm
  ·have:=Jm hm
   rw[← q];obtain⟨n,hn⟩:=Option.isSome_iff_exists.1 this;rw[hn,Option.some_or,← hn];exact h.ar _
  ·rw[if_neg q,Option.or_none]
   exact h.ar nm
 ·rw[h.has,List.map_append]
  apply decide_eq_decide.2
  rw[List.mem_append]
  constructor
  ·exact .inl
  ·rintro(q|q)
   ·exact q
   ·obtain rfl:nm=d.res.name:=by simpa using q
    exact hm
theorem lZ.ins {ml:ML}{l:List ZD}{d:ZD}(h:lZ ml l)(hd:pK ml d.res.name=false)(s b u:Value)(a:Option Addr)(c:Nat):lZ (qp ml d.res.name [s,.slice a d.params.length c,b,u]) (l++[d]):=by
 have hm:d.res.name ∉ l.map fun d=>d.res.name:=by
  have:=h.has d.res.name;rw[hd] at this;exact of_decide_eq_false this.symm
 have hg:∀ nm,qE (qp ml d.res.name [s,.slice a d.params.length c,b,u]) nm=if nm=d.res.name then some [s,.slice a d.params.length c,b,u] else qE ml nm:=U0 _ hd
 refine⟨fun nm=>?_,fun nm=>?_⟩
 ·rw[hg,yM]
  by_cases q:nm=d.res.name
  ·subst q
   rw[if_pos rfl,if_pos rfl,Jl hm,Option.none_or];exact⟨s,a,c,b,u,rfl⟩
  ·rw[if_neg q,if_neg (fun e=>q e.symm),Option.or_none]
   exact h.ar nm
 ·rw[← xk,hg,List.map_append]
  by_cases q:nm=d.res.name
  ·subst q
   rw[if_pos rfl];exact(decide_eq_true (List.mem_append_right _ (by simp))).symm
  ·rw[if_neg q,xk,h.has]
   apply decide_eq_decide.2
   rw[List.mem_append]
   constructor
   ·exact .inl
   ·rintro(e|e)
    ·exact e
    ·exact absurd (by simpa using e) q
theorem X5 {l:ML}(hw:Ab 4 l)(x:List UInt8):∃ v0 v1 v2 v3:Value,(∀ W e w',zl l x W e w'→e=.returned (.tuple #[.agg #[v0,v1,v2,v3],.bool (pK l x)])∧Below W.heap.size W w')∧∀ u∈[v0,v1,v2,v3],u.oneCell'=true:=by
 rw[← xk]
 cases hg:qE l x with
 | none =>
  refine⟨.string ⟨#[]⟩,.slice none 0 0,.int .i64 0,.slice none 0 0,fun W e w' q=>?_,by simp[Value.oneCell']⟩;unfold zl at q;rw[hg] at q;exact q
 | some vs =>
  have hp:∃ p∈l,p.2=vs:=by
   unfold qE at hg;obtain⟨p,hp,hq⟩:=Option.map_eq_some_iff.1 hg;exact⟨p,List.mem_of_find?_eq_some hp,hq⟩
  obtain⟨p,hp,rfl⟩:=hp;obtain⟨a,b,c,d,he⟩:=Zi (hw.wid p hp);refine⟨a,b,c,d,fun W e w' q=>?_,by rw[← he];exact hw.one p hp⟩;unfold zl at q;rw[hg,he] at q;exact q
end Go.Proofs.YtknicmmigbhpcaaGreatDoor
