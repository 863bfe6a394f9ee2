/- Walks and plain laws, without a condition. -/
import Derived.Test.YtmhdgeekclhbbaaGreatDoorE18
import Derived.Deep.RegionHeldLaw
set_option maxHeartbeats 16000000
set_option maxRecDepth 100000
set_option linter.unusedVariables false
set_option linter.unusedSimpArgs false
namespace Go.Proofs.YtmhdgeekclhbbaaGreatDoor
open Go.RowKit Go
variable{ks:List PZ}{v:Value}{w:World}{P:Nat->Prop}{b:Nat}{nm:aH}{l:List ZD}{d:ZD}{ml:ML}
theorem Tryz.acJ:(Tryz.prog.info? 98).map (λi=>(i.zero,i.size,i.bytes))=some (some (.agg #[.string ⟨#[]⟩,.int .i64 0,.slice none 0 0]),3,48):=by kernel_rfl
theorem Tryz.acK:∀ args w,(callFunc 63 args).run Tryz.prog w=.ok (.enter 63 args) w:=Go.Proofs.enters_of Tryz.func63 (by kernel_rfl) rfl
def VY (P:Nat->Prop)(d:ZD)(w:World)(e:Ending)(w':World):Prop:=∃ a c ac cc,e=.returned (.agg #[.string ⟨d.res.name.toArray⟩,.slice a d.params.length c,.int .i64 d.res.base,.slice ac d.res.aC.length cc])/\QX (λb=>(P b/\b<w.heap.size)\/w.heap.size<=b) w' (.slice a d.params.length c) (.slice ac d.res.aC.length cc) d.params d.res.aC/\Below w.heap.size w w'
theorem QY (h:RowK (ZK YA) P w v ks):∃ l:List (PZ × (Value × Value)),l.map Prod.fst=ks/\pO P w v 8 ks.length ((ZK YA).flat l)/\(∀ u∈(ZK YA).flat l,u.oneCell'=true)/\∀ p∈l,nD YA P w p.2.1 p.2.2 p.1:=by
 obtain⟨l,h1,h2,h3⟩:=h;refine⟨l,h1,h2,λu hu=>?_,h3⟩;obtain⟨⟨e,m,k⟩,hp,hq⟩:=List.mem_flatMap.1 hu;have he:nD YA P w m k e:=h3 _ hp;obtain⟨am,wn,cm,ae,ce,rfl,rfl⟩:=he.Xt;simp only[ZK,YA,oo,List.not_mem_nil,or_false] at hq
 rcases hq with rfl|rfl|rfl|rfl|rfl|rfl|rfl|rfl<;>rfl
theorem Jh {Q R:Nat->Prop}{w':World}{v':Value}{l:List (PZ × (Value × Value))}(h1:l.map Prod.fst=ks)(h2:pO Q w' v' 8 ks.length ((ZK YA).flat l))(h3:∀ p∈l,nD YA P w p.2.1 p.2.2 p.1)(hA:bA P w w')(hQ:∀ b,Q b->b<w'.heap.size->R b)(hP:∀ b,P b->b<w.heap.size->R b):RowK (ZK YA) R w' v' ks :=
 ⟨l,h1,h2.imp hQ,λp hp=>((h3 p hp).imp (Q:=λb=>P b/\R b) λb hb hl=>⟨hb,hP b hb hl⟩).frame ⟨hA.1,λb hb hl=>hA.2 b hb.1 hl⟩ |>.imp λb hb _=>hb.2⟩
theorem Ji (v0 v1 v2 v3:Value)(h:∀ k,P k->k≠b):bA P w (xg w b v0 v1 v2 v3) :=
 (((bA.set (a:=⟨b,0,none⟩) v0 h).trans (bA.set (a:=⟨b,1,none⟩) v1 h)).trans (bA.set (a:=⟨b,2,none⟩) v2 h)).trans (bA.set (a:=⟨b,3,none⟩) v3 h)
theorem Yr (P:Nat->Prop)(d:ZD)(ap:Option Addr)(cp:Nat)(ac:Option Addr)(cc:Nat)(am:Option Addr)(wn cm:Nat)(ae:Option Addr)(ce:Nat)(w:World)(hfit:d.uw)
  (hP:RowK ZFK P w (.slice ap d.params.length cp) d.params) (hC:RowK (ZK YA) P w (.slice ac d.res.aC.length cc) d.res.aC) :
  Calls Tryz.prog 32 #[.agg (iG d ap cp ac cc am wn cm ae ce)] w (VY P d w):=by
 have hal:=(aB w (.cells (iG d ap cp ac cc am wn cm ae ce) 66)).alloc (by simp) (.cells #[.string ⟨#[]⟩,.slice none 0 0,.int .i64 0,.slice none 0 0] 53);have g0:=(iB (w.alloc (.cells (iG d ap cp ac cc am wn cm ae ce) 66)) (.cells #[.string ⟨#[]⟩,.slice none 0 0,.int .i64 0,.slice none 0 0] 53) w.heap.size (by simp)).trans (aZ w (.cells (iG d ap cp ac cc am wn cm ae ce) 66));have g1:=aZ (w.alloc (.cells (iG d ap cp ac cc am wn cm ae ce) 66)) (.cells #[.string ⟨#[]⟩,.slice none 0 0,.int .i64 0,.slice none 0 0] 53);rw[oU] at g1;obtain⟨ae',ce',hv,_,hform⟩:=hP.form;simp only[Value.slice.injEq] at hv;obtain⟨rfl,-,rfl⟩:=hv;have hPR:=hP;obtain⟨lc,hlc,hcs1,hcs2,ahN⟩:=QY hC
 obtain⟨cs,af4⟩:∃ cs,cs=(ZK YA).flat lc:=⟨_,rfl⟩
 rw[<- af4] at hcs1 hcs2;have HCS:=ay (iq hlc (iq af4 ahN));have hpn:=hfit.mG;have hcn:=hfit.cl.1;have KY:=ay (λW (hW:Below w.heap.size w W)=>Jg P _ _ cs W (hcs1.frame (bA.of hW)) hcs2 (by omega));have HF:=ay hform;have Dy:=ay hfit;clear hform hP hC hfit hcs1 hcs2 ahN hlc af4 hPR;go_enter Tryz.func32,Tryz.ntmps32
 go_upto_region 1 with fail
 change Code.wp _ _ _ _ ((w.alloc (.cells (iG d ap cp ac cc am wn cm ae ce) 66)).alloc (.cells #[.string ⟨#[]⟩,.slice none 0 0,.int .i64 0,.slice none 0 0] 53));generalize (w.alloc (.cells (iG d ap cp ac cc am wn cm ae ce) 66)).alloc (.cells #[.string ⟨#[]⟩,.slice none 0 0,.int .i64 0,.slice none 0 0] 53)=w1 at *;have hz1:=hal.size;have hl1:=(bU g1).1;obtain⟨y0,y1,y2,y3,y4,y5,y6,y7,y8,y9,um,uo,uq,y13,VQ⟩:=aY g0;have HG:=ay (iq g0 g1)
 have hn1:w.heap.size≠w1.heap.size:=by omega
 clear g0 g1
 go_cut [3] (λp wc=>∃ (Y:Nat) (a3:Option Addr) (c3:Nat),p=.pointer (some ⟨Y,0,none⟩)/\wc.heap[Y]?=some (.cells #[.string ⟨d.res.name.toArray⟩,.slice none 0 0,.int .i64 d.res.base,.slice a3 d.res.aC.length c3] 53 (0,0))/\w1.heap.size<=Y/\Below w1.heap.size w1 wc/\pO (λb=>w1.heap.size<=b/\b≠Y) wc (.slice a3 d.res.aC.length c3) 8 d.res.aC.length cs)
 case first =>
  go_region_held3 (λW=>W.cell? ⟨w.heap.size,1,none⟩=some (.string ⟨d.res.name.toArray⟩)/\W.cell? ⟨w.heap.size,3,none⟩=some (.int .i64 d.res.base)/\W.cell? ⟨w.heap.size,4,none⟩=some (.slice ac d.res.aC.length cc))
   (first|(with_reducible exact p3)|(with_reducible exact iq ((nN w2 w1.heap.size w.heap.size 1 _ _ _ _ hn1).trans p3.1) (iq ((nN w2 w1.heap.size w.heap.size 3 _ _ _ _ hn1).trans p3.2.1) ((nN w2 w1.heap.size w.heap.size 4 _ _ _ _ hn1).trans p3.2.2)))|(go_keep;done))
   (first|(go_at_call 63;refine(KY.out _ ?_).mono ?_;(first|exact hal.drew|exact(hal.alloc hz1 _).drew);rintro e w2 ⟨a3,c3,rfl,hsl2,hb2⟩;have hq2:Below w1.heap.size w1 w2:=(by first|exact(bY _ _).drew.trans hb2|exact((bY _ _).alloc (bI _) _).drew.trans (hb2.mono (by simp)));have p3:=iq (jy hq2 y1) (iq (jy hq2 y3) (jy hq2 y4));try (have hT:=(hb2.block w1.heap.size (by simp)).trans (aZ w1 (.cells #[.string ⟨#[]⟩,.slice none 0 0,.int .i64 0,.slice none 0 0] 53));obtain⟨⟨t0,t1,t2,t3⟩,g0,g1,g2,g3⟩:=sS hT)))
  ·clear p3
   go_wp2_with fail
   go_meet
   exact⟨w2.heap.size,a3,c3,rfl,aZ w2 _,hq2.size,hq2.alloc hq2.size _,((hsl2.imp (Q:=λb=>w1.heap.size<=b/\b≠w2.heap.size) λb hb hl=>⟨hb,by omega⟩).frame (bA.of (aB w2 _)))⟩
  ·clear p3
   go_wp2_with fail
   go_meet
   exact⟨w1.heap.size,a3,c3,rfl,nK hT (.string ⟨d.res.name.toArray⟩) (.slice none 0 0) (.int .i64 d.res.base) (.slice a3 d.res.aC.length c3),bI _,kD hq2 (bI _) (.string ⟨d.res.name.toArray⟩) (.slice none 0 0) (.int .i64 d.res.base) (.slice a3 d.res.aC.length c3),((hsl2.imp (Q:=λb=>w1.heap.size<=b/\b≠w1.heap.size) λb hb hl=>by have h9:w1.heap.size+1<=b:=(by simpa using hb);omega).frame (Ji _ _ _ _ λk hk=>hk.2))⟩
 case rest =>
  obtain⟨Y,a3,c3,rfl,hY,hYw,hqc,hsl⟩:=hcut
  obtain⟨w2,rfl⟩:∃ w2:World,w2=wc:=⟨_,rfl⟩
  clear y0 y1 y2 y3 y4 y5 y6 y7 y8 y9 um uo uq y13 VQ;have gd2:=(hqc.block _ (by omega)).trans HG.out.1;have gr2:=(hqc.block _ hl1).trans HG.out.2;have hzc:=hqc.size;have ai4:=(bU hY).1;have mJ:=hal.trans (hqc.mono hz1);obtain⟨y0,y1,y2,y3,y4,y5,y6,y7,y8,y9,um,uo,uq,y13,VQ⟩:=aY gd2;have QS:=ay gr2;have HY2:=ay hY;obtain⟨i0,hi,hz0,hz1',hz2⟩:=info_parts Tryz.acJ;clear gd2 gr2 hY HG;generalize hps:d.params=ps at *;generalize hrn:d.res.name=rn at *;generalize hrb:d.res.base=rb at *;generalize hrl:d.res.aC.length=rl at *;have HRN:=ay (iq hrn (iq hrb hrl));have HSL:=ay hsl;have ai5:Y<w2.heap.size:=ai4;clear hsl;clear hrn hrb hrl;go_wp2;clear y0 y1 y2 y3 y4 y5 y6 y7 y8 y9 um uo uq y13 VQ
  go_loopw [5,17] (λ_ q wr=>∃ (k:Nat) (ak:Option Addr) (ck:Nat),k<=ps.length/\q=.int .i64 k/\wr.heap[Y]?=some (.cells #[.string ⟨rn.toArray⟩,.slice ak k ck,.int .i64 rb,.slice a3 rl c3] 53 (0,0))/\sP QW (λb=>(P b/\b<w.heap.size)\/w2.heap.size<=b) w2.heap.size 98 wr (.slice ak k ck) (ps.take k)/\wr.heap[w.heap.size+1]?=some (.cells #[.string ⟨#[]⟩,.slice none 0 0,.int .i64 0,.slice none 0 0] 53 (0,0))/\Below w.heap.size w wr/\bA (λb=>b<w2.heap.size/\b≠Y) w2 wr) (λ_ q _=>ps.length - (intOf q).toNat)
  case atStart=>exact⟨0,none,0,mD _,rfl,HY2.out,by rw[List.take_zero];exact sP.nil _ _ _ _ _,QS.out,mJ,bA.refl _ _⟩
  case round =>
   obtain⟨k,ak,ck,hk,rfl,hYr,aeM,hgr,hbl,fU⟩:=hrel;have ai6:=fU.1;have akf:w1.heap.size<=wr.heap.size:=iY hzc ai6;have HQ:=ay aeM;obtain⟨Nq,hr1,hown,hes⟩:=aeM
   have hlk:(ps.take k).length=k:=by rw[qX,Nat.min_eq_left hk]
   rw[hlk] at hown;have hown:wr.ownsRow w2.heap.size 98 3 (.slice ak k ck) k (QW.flat Nq):=hown;have HES:=ay (iq hr1 (iq hes (iq hlk fU)));generalize hxs:QW.flat Nq=xs at hown;have HXS:=ay hxs;clear hes hr1 hlk fU hxs;have Fx:=hbl.size;have hYl:=(bU hYr).1;have hgl:=(bU hgr).1;have HYR:=ay hYr;have HO:=ay hown;have HOW:=HO;have acL:=ay hgr;clear hYr hown hgr
   by_cases hlt:k<ps.length
   ·obtain⟨b,off,rfl,hPb,hbw,kK⟩:=HF.out (by omega)
    obtain⟨cv,hcl,hc⟩:=kK k hlt;obtain⟨a2,c2,rfl⟩:=RowK.slice hcl;obtain⟨l2,hl2,hs1,hs2,hs3⟩:=QY hcl
    obtain⟨cs2,acM⟩:∃ cs2,cs2=(ZK YA).flat l2:=⟨_,rfl⟩
    rw[<- acM] at hs1 hs2;have htk:=EF hlt;have HL2:=ay (iq hl2 (iq acM (iq hs3 htk)));clear hl2 acM hs3 htk;have hpf:=Dy.out.pcl _ (by rw[hps];exact oQ hlt);have x0:=(hbl.cell (p:=⟨b,off+k * 5+0,none⟩) hbw).trans (hc 0 _ rfl);have x1:=(hbl.cell (p:=⟨b,off+k * 5+1,none⟩) hbw).trans (hc 1 _ rfl);have x2:=(hbl.cell (p:=⟨b,off+k * 5+2,none⟩) hbw).trans (hc 2 _ rfl);have x3:=(hbl.cell (p:=⟨b,off+k * 5+3,none⟩) hbw).trans (hc 3 _ rfl);have x4:=(hbl.cell (p:=⟨b,off+k * 5+4,none⟩) hbw).trans (hc 4 _ rfl);rw[qp] at x0;simp only[dX] at x0;have hpc:=hpf.1;clear kK hcl hc hpf;generalize ps[k]=p at *;have fV:=aB wr (.cells #[.string ⟨p.name.toArray⟩,.int .i64 p.base,.slice a2 p.aC.length c2,.int .i64 p.at_,.int .i64 p.bare] 68);have gk:=aZ wr (.cells #[.string ⟨p.name.toArray⟩,.int .i64 p.base,.slice a2 p.aC.length c2,.int .i64 p.at_,.int .i64 p.bare] 68)
    have qF:(k:Int)<(ps.length:Int):=by omega
    go_upto_region 5 with fail
    change Code.wp _ _ _ _ (wr.alloc (.cells #[.string ⟨p.name.toArray⟩,.int .i64 p.base,.slice a2 p.aC.length c2,.int .i64 p.at_,.int .i64 p.bare] 68));clear x0 x1 x2 x3 x4
    have ai7:wr.heap.size<(wr.alloc (.cells #[.string ⟨p.name.toArray⟩,.int .i64 p.base,.slice a2 p.aC.length c2,.int .i64 p.at_,.int .i64 p.bare] 68)).heap.size:=by simp
    generalize wr.alloc (.cells #[.string ⟨p.name.toArray⟩,.int .i64 p.base,.slice a2 p.aC.length c2,.int .i64 p.at_,.int .i64 p.bare] 68)=w3 at *;have hz3:=fV.size;have HCK:=ay (λW (hW:Below w3.heap.size w3 W)=>Jg P _ _ cs2 W (hs1.frame (bA.of (hbl.trans ((fV.trans (hW.mono hz3)).mono Fx)))) hs2 (by omega));have HY3:=ay ((fV.block Y hYl).trans HYR.out);have YV:=ay (own_below HO.out fV);have Us:=ay ((fV.block _ hgl).trans acL.out);have HGK:=ay gk
    have HS:Hid (∀ W,bA (λb=>b=wr.heap.size) w3 W->(W.cell? ⟨wr.heap.size,0,none⟩=some (.string ⟨p.name.toArray⟩)/\W.cell? ⟨wr.heap.size,1,none⟩=some (.int .i64 p.base)/\W.cell? ⟨wr.heap.size,2,none⟩=some (.slice a2 p.aC.length c2))):=ay λW hW=>by
     obtain⟨q0,q1,q2,_,_⟩:=dL ((hW.2 _ rfl ai7).trans HGK.out);exact⟨q0,q1,q2⟩
    have ai8:some wr.heap.size≠(Value.slice ak k ck).ownBlock:=own_ne YV.out HGK.out (by decide);have HC:=ay (HCK.out w3.drew (bY _ _).drew);have ai9:=Tryz.acK;have p3:=HS.out w3.drew (bA.of (bY _ _).drew);obtain⟨t0,t1,t2,t3⟩:=(sS HY3.out).1
    have afW:Y<w3.heap.size:=by omega
    have aja:w.heap.size+1<w3.heap.size:=by omega
    have hne:wr.heap.size≠Y:=by omega
    clear gk hs1 HYR HO acL HCK;refine wp_region_held_drew (S:=(λW=>W.cell? ⟨wr.heap.size,0,none⟩=some (.string ⟨p.name.toArray⟩)/\W.cell? ⟨wr.heap.size,1,none⟩=some (.int .i64 p.base)/\W.cell? ⟨wr.heap.size,2,none⟩=some (.slice a2 p.aC.length c2))) (by kernel_rfl) p3 (λhHeld=>?_);refine wpAnyH_take (i:=0) (oi:=⟨some 21,_,_,_,_,_⟩) (v:=?_) rfl (by kernel_rfl) (by kernel_rfl) (by kernel_rfl) (λ_ _ _ h=>h) (Or.inl ⟨by rfl,?_⟩) hHeld ?_
    rotate_left
    ·intro w hSw;(try dsimp only at hSw);go_simp;try (with_reducible rfl)
    simp only[Act.put,List.setIfInBounds_toArray,List.set_cons_zero,List.set_cons_succ];refine wpAnyH_take (i:=2) (oi:=⟨some 23,_,_,_,_,_⟩) (v:=?_) rfl (by kernel_rfl) (by kernel_rfl) (by kernel_rfl) (λ_ _ _ h=>h) (Or.inl ⟨by rfl,?_⟩) hHeld ?_
    rotate_left
    ·intro w hSw;(try dsimp only at hSw);go_simp;try (with_reducible rfl)
    simp only[Act.put,List.setIfInBounds_toArray,List.set_cons_zero,List.set_cons_succ];refine wpAnyH_take (i:=3) (oi:=⟨some 24,_,_,_,_,_⟩) (v:=?_) rfl (by kernel_rfl) (by kernel_rfl) (by kernel_rfl) (λ_ _ _ h=>h) (Or.inl ⟨by rfl,?_⟩) hHeld ?_
    rotate_left
    ·intro w hSw;(try dsimp only at hSw);go_simp;try (with_reducible rfl)
    simp only[Act.put,List.setIfInBounds_toArray,List.set_cons_zero,List.set_cons_succ];refine wpAnyH_take (i:=4) (oi:=⟨some 25,_,_,_,_,_⟩) (v:=?_) rfl (by kernel_rfl) (by kernel_rfl) (by kernel_rfl) (λ_ _ _ h=>h) (Or.inl ⟨by rfl,?_⟩) hHeld ?_
    rotate_left
    ·intro w hSw;(try dsimp only at hSw);go_simp;try (with_reducible rfl)
    simp only[Act.put,List.setIfInBounds_toArray,List.set_cons_zero,List.set_cons_succ];refine wpAnyH_take (i:=5) (oi:=⟨some 26,_,_,_,_,_⟩) (v:=?_) rfl (by kernel_rfl) (by kernel_rfl) (by kernel_rfl) (λ_ _ _ h=>h) (Or.inl ⟨by rfl,?_⟩) hHeld ?_
    rotate_left
    ·intro w hSw;(try dsimp only at hSw);go_simp;try (with_reducible rfl)
    simp only[Act.put,List.setIfInBounds_toArray,List.set_cons_zero,List.set_cons_succ];refine wpAnyH_take (i:=6) (oi:=⟨some 27,_,_,_,_,_⟩) (v:=?_) rfl (by kernel_rfl) (by kernel_rfl) (by kernel_rfl) (λ_ _ _ h=>h) (Or.inl ⟨by rfl,?_⟩) hHeld ?_
    rotate_left
    ·intro w hSw;(try dsimp only at hSw);go_simp;try (with_reducible rfl)
    simp only[Act.put,List.setIfInBounds_toArray,List.set_cons_zero,List.set_cons_succ];refine wpAnyH_take (i:=7) (oi:=⟨some 28,_,_,_,_,_⟩) (v:=?_) rfl (by kernel_rfl) (by kernel_rfl) (by kernel_rfl) (λ_ _ _ h=>h) (Or.inl ⟨by rfl,?_⟩) hHeld ?_
    rotate_left
    ·intro w hSw;(try dsimp only at hSw);go_simp;try (with_reducible rfl)
    simp only[Act.put,List.setIfInBounds_toArray,List.set_cons_zero,List.set_cons_succ];refine wpAnyH_ready (rs:=[1,8]) (by kernel_rfl) (by simp) (AllReadyH.cons (o:=⟨some 22,_,_,_,_,_⟩) rfl (λK hK=>?_) (AllReadyH.cons (o:=⟨some 29,_,_,_,_,_⟩) rfl (λK hK=>?_) AllReadyH.nil));go_simp;refine hK.out _ _ (hHeld) (λhHeld=>?_);clear hK K;refine wpAnyH_ready (rs:=[8]) (by kernel_rfl) (by simp) (AllReadyH.cons (o:=⟨some 29,_,_,_,_,_⟩) rfl (λK hK=>?_) AllReadyH.nil)
    all_goals
     refine yL rfl 63 _ _ rfl HC.out (by rfl) (ai9 _ _) ?_;rintro e w5 ⟨a5,c5,rfl,ajb,hb5⟩;refine⟨_,rfl,?_⟩;have zm:Below w3.heap.size w3 w5:=(bY w3.heap.size w3).drew.trans hb5;have hY5:=(zm.block Y afW).trans HY3.out;have r52:=(sS hY5).1.2.1;have r53:=λo=>Lib.cell?_alloc_some o r52;have al5:bA (λb=>b=wr.heap.size) w3 w5:=bA.of zm;have p3:=HS.out _ al5;have p3a:=λo=>HS.out (w5.alloc o) (al5.trans (bA.of (aB w5 o)))
     refine hK.out _ _ (p3) (λhHeld=>?_);clear hK K
    all_goals
     refine wpAnyH_take (i:=9) (oi:=⟨some 30,_,_,_,_,_⟩) (v:=?_) rfl (by kernel_rfl) (by kernel_rfl) (by kernel_rfl) (λ_ _ _ h=>h) (Or.inl ⟨by rfl,?_⟩) hHeld ?_;rotate_left
     ·intro w hSw;(try dsimp only at hSw);go_simp;try (with_reducible rfl)
     simp only[Act.put,List.setIfInBounds_toArray,List.set_cons_zero,List.set_cons_succ]
    rotate_left 1;refine wpAnyH_ready (rs:=[1,10]) (by kernel_rfl) (by simp) (AllReadyH.cons (o:=⟨some 22,_,_,_,_,_⟩) rfl (λK hK=>?_) (AllReadyH.cons (o:=⟨some 31,_,_,_,_,_⟩) rfl (λK hK=>?_) AllReadyH.nil));rotate_right 1
    rotate_left 1;go_simp;refine hK.out _ _ (hHeld) (λhHeld=>?_);clear hK K;refine wpAnyH_ready (rs:=[10]) (by kernel_rfl) (by simp) (AllReadyH.cons (o:=⟨some 31,_,_,_,_,_⟩) rfl (λK hK=>?_) AllReadyH.nil);rotate_right 1
    refine wpAnyH_ready (rs:=[10]) (by kernel_rfl) (by simp) (AllReadyH.cons (o:=⟨some 31,_,_,_,_,_⟩) rfl (λK hK=>?_) AllReadyH.nil)
    all_goals
     go_simp;refine hK.out _ _ (p3a _) (λhHeld=>?_);clear hK K
    rotate_left 2;refine wpAnyH_ready (rs:=[1]) (by kernel_rfl) (by simp) (AllReadyH.cons (o:=⟨some 22,_,_,_,_,_⟩) rfl (λK hK=>?_) AllReadyH.nil);go_simp;refine hK.out _ _ (hHeld) (λhHeld=>?_);clear hK K;rotate_right 2
    all_goals refine wpAnyH_ready (rs:=[11]) (by kernel_rfl) (by simp) (AllReadyH.cons (o:=⟨some 32,_,_,_,_,_⟩) rfl (λK hK=>?_) AllReadyH.nil)
    all_goals
     refine step_append_lies _ (by rfl) _ _ _ (by rfl) w2.heap.size 98 i0 _ 3 48 Tryz.underlying50 hi hz0 hz1' hz2 rfl (by omega) (.slice ak k ck) k _ (by rfl) ((own_below YV.out zm).alloc _) ⟨w5.heap.size,0,none⟩ 1 1 [.string ⟨p.name.toArray⟩,.int .i64 p.base,.slice a5 p.aC.length c5] (by rfl) (by rfl) (wS (cs:=#[.string ⟨p.name.toArray⟩,.int .i64 p.base,.slice a5 p.aC.length c5]) (t:=98) (fr:=(0,0)) (aZ w5 _)) (by simp[Value.oneCell']) (by omega) (by unfold maxLen;omega) (by omega) (by have:=zm.size;simp;omega) (w5.heap.size+1) (by simp) ?_;intro gg cap6 w6 hown6 oF ZL ZM;have hY6:=jf ((own_below YV.out zm).alloc _) oF ((iB w5 _ Y (by have:=zm.size;omega)).trans hY5) (by decide);have hG6:=jf ((own_below YV.out zm).alloc _) oF ((iB w5 _ _ (by have:=zm.size;omega)).trans ((zm.block _ aja).trans Us.out)) (by decide);have r65:=(sS hY6).1.2.1;have z65:=(sS hY6).2.2.1;have al6:=(al5.trans (bA.of (aB w5 _))).trans (bA.grown oF λb hb q=>ai8 (by rw[<- hb];exact q));have p3:=HS.out _ al6;have p3a:=λv=>HS.out (w6.setCell ⟨Y,1,none⟩ v) (al6.trans (bA.set v λb hb=>by rw[hb];exact hne))
     refine hK.out _ _ (p3) (λhHeld=>?_);clear hK K
    all_goals
     refine wpAnyH_take (i:=12) (oi:=⟨some 33,_,_,_,_,_⟩) (v:=?_) rfl (by kernel_rfl) (by kernel_rfl) (by kernel_rfl) (λ_ _ _ h=>h) (Or.inl ⟨by rfl,?_⟩) hHeld ?_;rotate_left
     ·intro w hSw;(try dsimp only at hSw);go_simp;try (with_reducible rfl)
     simp only[Act.put,List.setIfInBounds_toArray,List.set_cons_zero,List.set_cons_succ]
    all_goals refine wpAnyH_ready (rs:=[13]) (by kernel_rfl) (by simp) (AllReadyH.cons (o:=⟨none,_,_,_,_,_⟩) rfl (λK hK=>?_) AllReadyH.nil)
    all_goals
     go_simp;refine hK.out _ _ (p3a _) (λhHeld=>?_);clear hK K
    all_goals refine wpAnyH_done (by kernel_rfl) ?_ _
    all_goals
     have hx5:RowK (ZK YA) (λb=>((P b/\b<w.heap.size)\/w2.heap.size<=b)/\some b≠(Value.slice ak k ck).ownBlock) w5 (.slice a5 p.aC.length c5) p.aC :=
      Jh HL2.out.1 (by rw[<- HL2.out.2.1];exact ajb) HL2.out.2.2.1 (bA.of ((hbl.trans ((fV.trans (zm.mono hz3)).mono Fx)))) (λb hb _=>⟨.inr (by have h9:w3.heap.size<=b:=hb;omega),λq=>by have h8:=(YV.out.lt b q.symm).2;have h9:w3.heap.size<=b:=hb;omega⟩) (λb hb hl=>⟨.inl ⟨hb,hl⟩,λq=>by have h8:=(YV.out.lt b q.symm).1;omega⟩)
     obtain⟨q1,q2,q3⟩:=sP.round (K:=QW) (Q:=λb=>(P b/\b<w.heap.size)\/w2.heap.size<=b) (wr:=wr) (kv:=.slice ak k ck) (YM:=.slice (some ⟨gg,0,none⟩) (k+1) cap6) (acc:=ps.take k) (a:=p) (x:=.slice a5 p.aC.length c5) (l:=Nq) HES.out.2.2.2 ai5 (λq=>by rcases q with q|q<;>omega) HES.out.1 (by rw[HES.out.2.2.1];rw[<- HXS.out] at HOW;exact HOW.out) HES.out.2.1 hx5 (fV.trans (zm.mono hz3)) (by rw[HES.out.2.2.1,HXS.out];exact hown6) oF rfl ZL 1 (.slice (some ⟨gg,0,none⟩) (k+1) cap6);rw[<- HL2.out.2.2.2] at q1;have HE:=ay (iq (kG w6 Y 1 _ _ (.slice (some ⟨gg,0,none⟩) (k+1) cap6) hY6) (iq q1 (iq ((qo w6 ⟨Y,1,none⟩ (w.heap.size+1) (.slice (some ⟨gg,0,none⟩) (k+1) cap6) (by show w.heap.size+1≠Y;omega)).trans hG6) (iq (q3 w.heap.size w (by omega) hbl) q2))));clear q1 q2 q3 hx5;clear p3 p3a al6 al5 r65 z65 r52 r53 hY6 hG6 oF hown6 ZL ZM hY5 hb5 t0 t1 t2 t3 hHeld;go_wp2_with fail
     go_roundw
     case rel=>exact⟨k+1,some ⟨gg,0,none⟩,cap6,by omega,by go_num,HE.out.1,HE.out.2.1,HE.out.2.2.1,HE.out.2.2.2.1,HE.out.2.2.2.2⟩
     case measure=>simp[intOf];omega
   ·obtain rfl:k=ps.length:=by omega
    have qF:decide ((ps.length:Int)<(ps.length:Int))=false:=fu (by omega);obtain⟨⟨t0,t1,t2,t3⟩,-⟩:=sS HYR.out;obtain⟨⟨c0,c1,c2,c3'⟩,f0,f1,f2,f3⟩:=sS acL.out;have hP:=nK acL.out (.string ⟨rn.toArray⟩) (.slice ak ps.length ck) (.int .i64 rb) (.slice a3 rl c3);have Rz:=kD hbl (by omega:w.heap.size<=w.heap.size+1) (.string ⟨rn.toArray⟩) (.slice ak ps.length ck) (.int .i64 rb) (.slice a3 rl c3)
    have hSG:QX (λb=>(P b/\b<w.heap.size)\/w.heap.size<=b) (xg wr (w.heap.size+1) (.string ⟨rn.toArray⟩) (.slice ak ps.length ck) (.int .i64 rb) (.slice a3 rl c3)) (.slice ak ps.length ck) (.slice a3 rl c3) ps d.res.aC:=by
     have h7:=HQ.out;rw[Fe] at h7;refine⟨((h7.row (R:=λb=>(P b/\b<w.heap.size)\/w2.heap.size<=b) (λ_ q=>.inr q) (λ_ q _=>q)).frame (Ji _ _ _ _ λk hk=>by rcases hk with hk|hk<;>omega)).imp λb hb _=>by rcases hb with hb|hb;exact .inl hb;exact .inr (by omega),?_⟩
     have h81:pO (λb=>(w1.heap.size<=b/\b≠Y)/\(b<w2.heap.size/\b≠Y)) w2 (.slice a3 rl c3) 8 rl cs:=HSL.out.imp λb hb hl=>⟨hb,hl,hb.2⟩
     have h82:=h81.frame (w':=wr) ⟨HES.out.2.2.2.1,λb hb hl=>HES.out.2.2.2.2 b hb.2 hl⟩
     have h8:pO (λb=>w1.heap.size<=b/\b≠Y) wr (.slice a3 rl c3) 8 rl cs:=h82.imp λb hb _=>hb.1
     have h9:RowK (ZK YA) (λb=>(P b/\b<w.heap.size)\/w1.heap.size<=b) wr (.slice a3 rl c3) d.res.aC:=Jh (Q:=λb=>w1.heap.size<=b/\b≠Y) HCS.out.1 (by rw[<- HCS.out.2.1,HRN.out.2.2];exact h8) HCS.out.2.2 (bA.of hbl) (λb hb _=>.inr hb.1) (λb hb hl=>.inl ⟨hb,hl⟩)
     exact(h9.frame (Ji _ _ _ _ λk hk=>by rcases hk with hk|hk<;>omega)).imp λb hb _=>by rcases hb with hb|hb;exact .inl hb;exact .inr (by omega)
    have HSG:=ay hSG;clear hSG;have HP:=ay hP;have HB:=ay Rz;clear hP Rz HYR acL HO;go_wp2;change bodyPost _ _ _ _ _ (xg wr (w.heap.size+1) (.string ⟨rn.toArray⟩) (.slice ak ps.length ck) (.int .i64 rb) (.slice a3 rl c3));generalize xg wr _ _ _ _ _=w4 at *;obtain⟨⟨d0,d1,d2,d3⟩,-⟩:=sS HP.out;exact o9 (v:=.agg #[.string ⟨rn.toArray⟩,.slice ak ps.length ck,.int .i64 rb,.slice a3 rl c3]) (by simp[results,Tryz.results32,go_sem,d0,d1,d2,d3]) rfl ⟨ak,ck,a3,c3,by rw[HRN.out.1,HRN.out.2.1,HRN.out.2.2,hps],by rw[hps,HRN.out.2.2];exact HSG.out,HB.out⟩
theorem Cj (l:List ZD)(d:ZD)(nm:aH):iT (l++[d]) nm=(iT l nm).or (if d.res.name=nm then some d.params.length else none):=by
 unfold iT;rw[List.find?_append]
 cases l.find? λd=>decide (d.res.name=nm) with
 | some x=>rfl
 | none =>
  rw[Option.none_or,List.find?_cons,List.find?_nil]
  by_cases h:d.res.name=nm
  ·rw[kS h,bq h];rfl
  ·rw[fu h,aP h];rfl
theorem NH (h:nm ∉ l.map (λd=>d.res.name)):iT l nm=none:=by
 unfold iT;rw[List.find?_eq_none.2 λd hd=>by simpa using λq=>h (by rw[<- q];exact List.mem_map_of_mem hd)]
 rfl
theorem NI (h:nm∈l.map (λd=>d.res.name)):(iT l nm).isSome=true:=by
 obtain⟨d,hd,rfl⟩:=List.mem_map.1 h;unfold iT;rw[Option.isSome_map,List.find?_isSome];exact⟨d,hd,by simp⟩
structure oP (ml:ML) (l:List ZD):Prop where
 ar:∀ nm,afU (oW ml nm) (iT l nm)
 has:∀ nm,l8 ml nm=decide (nm∈l.map λd=>d.res.name)
theorem oP.nil:oP [] []:=⟨λ_=>trivial,λ_=>rfl⟩
theorem oP.same (h:oP ml l)(hd:l8 ml d.res.name=true):oP ml (l++[d]):=by
 have hm:d.res.name∈l.map λd=>d.res.name:=by
  have:=h.has d.res.name;rw[hd] at this;exact V7 this.symm
 refine⟨λnm=>?_,λnm=>?_⟩
 ·rw[Cj]
  by_cases q:d.res.name=nm
  ·have:=NI hm
   rw[<- q];obtain⟨n,hn⟩:=Option.isSome_iff_exists.1 this;rw[hn,Option.some_or,<- hn];exact h.ar _
  ·rw[aP q,Option.or_none]
   exact h.ar nm
 ·rw[h.has,zJ]
  apply decide_eq_decide.2
  rw[List.mem_append]
  constructor
  ·exact .inl
  ·rintro(q|q)
   ·exact q
   ·obtain rfl:nm=d.res.name:=by simpa using q
    exact hm
theorem oP.ins (h:oP ml l)(hd:l8 ml d.res.name=false)(s b u:Value)(a:Option Addr)(c:Nat):oP (qh ml d.res.name [s,.slice a d.params.length c,b,u]) (l++[d]):=by
 have hm:d.res.name ∉ l.map λd=>d.res.name:=by
  have:=h.has d.res.name;rw[hd] at this;exact of_decide_eq_false this.symm
 have hg:∀ nm,oW (qh ml d.res.name [s,.slice a d.params.length c,b,u]) nm=if nm=d.res.name then some [s,.slice a d.params.length c,b,u] else oW ml nm:=QF _ hd
 refine⟨λnm=>?_,λnm=>?_⟩
 ·rw[hg,Cj]
  by_cases q:nm=d.res.name
  ·subst q
   rw[bq rfl,bq rfl,NH hm,Option.none_or];exact⟨s,a,c,b,u,rfl⟩
  ·rw[aP q,aP (λe=>q e.symm),Option.or_none]
   exact h.ar nm
 ·rw[<- yx,hg,zJ]
  by_cases q:nm=d.res.name
  ·subst q
   rw[bq rfl];exact(kS (List.mem_append_right _ (by simp))).symm
  ·rw[aP q,yx,h.has]
   apply decide_eq_decide.2
   rw[List.mem_append]
   constructor
   ·exact .inl
   ·rintro(e|e)
    ·exact e
    ·exact absurd (by simpa using e) q
theorem acN {l:ML}(hw:yV 4 l)(x:aH):∃ v0 v1 v2 v3:Value,(∀ W e w',Dt l x W e w'->e=.returned (.tuple #[.agg #[v0,v1,v2,v3],.bool (l8 l x)])/\Below W.heap.size W w')/\∀ u∈[v0,v1,v2,v3],u.oneCell'=true:=by
 rw[<- yx]
 cases hg:oW l x with
 | none =>
  refine⟨.string ⟨#[]⟩,.slice none 0 0,.int .i64 0,.slice none 0 0,λW e w' q=>?_,by simp[Value.oneCell']⟩;unfold Dt at q;rw[hg] at q;exact q
 | some vs =>
  have hp:∃ p∈l,p.2=vs:=by
   unfold oW at hg;obtain⟨p,hp,hq⟩:=Option.map_eq_some_iff.1 hg;exact⟨p,List.mem_of_find?_eq_some hp,hq⟩
  obtain⟨p,hp,rfl⟩:=hp;obtain⟨a,b,c,d,he⟩:=aea (hw.wid p hp);refine⟨a,b,c,d,λW e w' q=>?_,by rw[<- he];exact hw.one p hp⟩;unfold Dt at q;rw[hg,he] at q;exact q
theorem UC (w:World):Calls Tryz.prog 46 #[] w λe w'=>e=.returned (.pointer (some ⟨w.heap.size,0,none⟩))/\w'=w.alloc (.cells #[.slice none 0 0] 161):=by
 go_enter Tryz.func46,Tryz.ntmps46;go_wp2;go_ret;exact⟨rfl,rfl⟩
def Fz (f:Fl)(w:World)(e:Ending)(w':World):Prop:=e=.returned (.agg #[.int .i64 (EA f),.int .i64 (JA f)])/\Below w.heap.size w w'
def ZP.check (p:ZP)(own:aH)(ms:List aH):Fl:=if (p.right && (bZ own && Ci [] ms))=true then p.fB own (λm=>decide (m∈ms)) (λ_ _=>none) else some (10,0)
theorem dF {u:Value}(h:w.heap[b]?=some (.cells #[u,v] 71 (0,0))):(w.cell? ⟨b,0,none⟩=some u/\w.cell? ⟨b,1,none⟩=some v)/\w.frozen? ⟨b,0,none⟩=false/\w.frozen? ⟨b,1,none⟩=false:=by
 refine⟨⟨?_,?_⟩,?_,?_⟩
 ·rw[bg h];rfl
 ·rw[bg h];rfl
 ·simp[World.frozen?,h]
 ·simp[World.frozen?,h]
def J9 (w:World)(b:Nat)(v0 v1:Value):World:=(w.setCell ⟨b,0,none⟩ v0).setCell ⟨b,1,none⟩ v1
theorem wE {B:Nat}{w0:World}(h:Below B w0 w)(hb:B<=b)(v0 v1:Value):Below B w0 (J9 w b v0 v1):=(h.setCell hb _).setCell hb _
theorem wF {c0 c1:Value}{T:TypeId}(h:w.heap[b]?=some (.cells #[c0,c1] T (0,0)))(v0 v1:Value):(J9 w b v0 v1).heap[b]?=some (.cells #[v0,v1] T (0,0)) :=
 kG _ b 1 _ _ v1 (kG w b 0 _ _ v0 h)
theorem Au:∀ (l:List ZD) (f:Fl) (seen:List aH),bT f->bT (jP f seen l)
 | [],f,seen,h=>h
 | d :: l,f,seen,h=>Au l _ _ (h.or (by split;exact bT.some (by decide);exact bT.none))
structure ZP.uw (p:ZP):Prop where
 fit:p.fit
 text:p.text.length<=1099511627776
 few:p.defs.length<=1000
 defs:∀ d∈p.defs,d.uw
theorem UD (own:aH)(p:ZP)(ai:Option Addr)(ci:Nat)(ad:Option Addr)(cd:Nat)(af:Option Addr)(cf:Nat)(ms:List aH)(w:World)(hi:p.aG=[])(hfit:p.uw)(hown:own.length<=65536)
  (hD:RowK Vu (λb=>b<w.heap.size) w (.slice ad p.defs.length cd) p.defs) (hF:RowK VO (λb=>b<w.heap.size) w (.slice af ms.length cf) ms) (hms:ms.length<=1000/\∀ m∈ms,m.length<=65536) :
  Calls Tryz.prog 21 #[.string ⟨own.toArray⟩,.agg #[.slice ai p.aG.length ci,.slice ad p.defs.length cd],.slice af ms.length cf] w (Fz (p.check own ms) w):=by
 have hal:=(aB w (.cells #[.slice ai p.aG.length ci,.slice ad p.defs.length cd] 26)).alloc (by simp) (.cells #[.int .i64 0,.int .i64 0] 71);have g0:=(iB (w.alloc (.cells #[.slice ai p.aG.length ci,.slice ad p.defs.length cd] 26)) (.cells #[.int .i64 0,.int .i64 0] 71) w.heap.size (by simp)).trans (aZ w (.cells #[.slice ai p.aG.length ci,.slice ad p.defs.length cd] 26));have g1:=aZ (w.alloc (.cells #[.slice ai p.aG.length ci,.slice ad p.defs.length cd] 26)) (.cells #[.int .i64 0,.int .i64 0] 71);rw[oU] at g1;have HD:=ay hD;have HFC:=ay hF;have Dy:=ay hfit;have HMS:=ay hms;have HI:=ay hi;have hdn:=hfit.few;have HIN:=ay (show p.aG.length=0 by rw[hi];rfl);clear hD hF hfit hms hi
 obtain⟨R,hR⟩:∃ R,R=p.check own ms:=⟨_,rfl⟩
 rw[<- hR];have HRR:=ay hR;clear hR;go_enter Tryz.func21,Tryz.ntmps21
 go_upto_region 1 with fail
 change Code.wp _ _ _ _ ((w.alloc (.cells #[.slice ai p.aG.length ci,.slice ad p.defs.length cd] 26)).alloc (.cells #[.int .i64 0,.int .i64 0] 71));generalize (w.alloc (.cells #[.slice ai p.aG.length ci,.slice ad p.defs.length cd] 26)).alloc (.cells #[.int .i64 0,.int .i64 0] 71)=w1 at *;have hz1:=hal.size;have hl1:=(bU g1).1;obtain⟨y0,y1⟩:=dH g0
 have hn0:w.heap.size<w1.heap.size:=by omega
 have HG:=ay (iq g0 g1);clear g0 g1
 go_cut [7] (λq wc=>∃ lb db,q=.pointer (some ⟨lb,0,none⟩)/\nL ⟨own,.slice ai p.aG.length ci,.slice ad p.defs.length cd,.slice af ms.length cf,db⟩ lb (.slice none 0 0) none wc/\Ap w1.heap.size db (.slice none 0 0) [] wc/\Below w1.heap.size w1 wc/\w1.heap.size<=db/\w1.heap.size<=lb/\lb≠db)
 case first =>
  go_region_with (go_at_call 46;refine(UC _).mono ?_;rintro e w2 ⟨rfl,rfl⟩)
  all_goals
   go_wp2_with fail
   go_meet
   have hA:=aZ (w1.alloc (.cells #[.slice none 0 0] 161)) (.cells #[.string ⟨own.toArray⟩,.slice ai p.aG.length ci,.slice ad p.defs.length cd,.slice af ms.length cf,.slice none 0 0,.pointer (some ⟨w1.heap.size,0,none⟩),.int .i64 0,.int .i64 0] 109);rw[oU] at hA;have hB:=(iB (w1.alloc (.cells #[.slice none 0 0] 161)) (.cells #[.string ⟨own.toArray⟩,.slice ai p.aG.length ci,.slice ad p.defs.length cd,.slice af ms.length cf,.slice none 0 0,.pointer (some ⟨w1.heap.size,0,none⟩),.int .i64 0,.int .i64 0] 109) w1.heap.size (by simp)).trans (aZ w1 (.cells #[.slice none 0 0] 161));exact⟨w1.heap.size+1,w1.heap.size,rfl,hA,⟨yV.nil 4,hB,World.ownsRow_nil _ _ _ _⟩,((aB w1 (.cells #[.slice none 0 0] 161)).alloc (by simp) (.cells #[.string ⟨own.toArray⟩,.slice ai p.aG.length ci,.slice ad p.defs.length cd,.slice af ms.length cf,.slice none 0 0,.pointer (some ⟨w1.heap.size,0,none⟩),.int .i64 0,.int .i64 0] 109)).drew,bI _,by omega,by omega⟩
 case rest =>
  obtain⟨lb,db,rfl,hL2,hM2,hqc,hdb,hlb,hne⟩:=hcut
  obtain⟨w2,rfl⟩:∃ w2:World,w2=wc:=⟨_,rfl⟩
  clear y0 y1;have hzc:=hqc.size;have mJ:=hal.trans (hqc.mono hz1);have akg:=hL2.lt;have gp2:=(hqc.block _ (by omega)).trans HG.out.1;have gr2:=(hqc.block _ hl1).trans HG.out.2
  have hpr:Yp p w.heap.size ai ad w2:=by
   obtain⟨ao,cap,hv,hdz⟩:=Yo (bI _) HD.out;simp only[Value.slice.injEq] at hv;obtain⟨rfl,-,rfl⟩:=hv;exact⟨λh0=>absurd h0 (by have:=HIN.out;omega),hdz.uD mJ,mJ.size⟩
  have HRT:=ay (Uz own db lb w.heap.size (.slice none 0 0) none p ai ci ad cd af cf ms w2 hL2 Dy.out.fit hpr Dy.out.text ((RowK.frame HFC.out (bA.of mJ)).imp λ_ _ _=>trivial) HMS.out hown);have HL2:=ay hL2;have TJ:=ay hM2;have HG2:=ay (iq gp2 gr2);obtain⟨⟨r0,r1⟩,rz0,rz1⟩:=dF gr2;obtain⟨y0,y1⟩:=dH gp2
  obtain⟨rt,hrt⟩:∃ rt,rt=(p.right && (bZ own && Ci [] ms)):=⟨_,rfl⟩
  rw[<- hrt] at HRT;have HRI:=ay hrt;clear hrt hL2 hM2 gp2 gr2 hpr HG
  cases rt with
  | false =>
   have HE:Hid (R=some (10,0)):=ay (by rw[HRR.out,ZP.check,<- HRI.out];rfl);clear HRR
   go_upto_region 3 with (go_at_call 47;refine HRT.out.mono ?_;rintro e w3 ⟨rfl,hb3⟩)
   clear r0 r1 rz0 rz1 y0 y1;have Yt:=(hb3.block _ (by omega)).trans HG2.out.2;obtain⟨⟨r0,r1⟩,rz0,rz1⟩:=dF Yt;have Rz:=wE (mJ.trans (hb3.mono mJ.size)) (by omega:w.heap.size<=w.heap.size+1) (.int .i64 10) (.int .i64 0);have hP:=wF Yt (.int .i64 10) (.int .i64 0);have HP:=ay hP;have HB:=ay Rz;clear hP Rz Yt;go_wp2;change bodyPost _ _ _ _ _ (J9 w3 (w.heap.size+1) (.int .i64 10) (.int .i64 0));generalize J9 w3 _ _ _=w4 at *;obtain⟨⟨d0,d1⟩,-⟩:=dF HP.out;exact o9 (v:=.agg #[.int .i64 10,.int .i64 0]) (by simp[results,Tryz.results21,go_sem,d0,d1]) rfl ⟨by rw[HE.out];rfl,HB.out⟩
  | true =>
   have HE:Hid (R=p.fB own (λm=>decide (m∈ms)) (λ_ _=>none)):=ay (by rw[HRR.out,ZP.check,<- HRI.out];rfl);clear HRR
   go_upto_region 4 with (go_at_call 47;refine HRT.out.mono ?_;rintro e w3 ⟨rfl,hb3⟩)
   clear r0 r1 rz0 rz1 y0 y1;have hz3:=hb3.size;have gp3:=(hb3.block _ (by omega)).trans HG2.out.1;have Yt:=(hb3.block _ (by omega)).trans HG2.out.2;have rA:=mJ.trans (hb3.mono mJ.size);have RA:=ay (HL2.out.below hb3);have HM3:=ay (TJ.out.below hb3);have Us:=ay (iq gp3 Yt);obtain⟨y0,y1⟩:=dH gp3;clear gp3 Yt HG2 HL2 TJ HRT
   have ajc:¬ ((0:Int)<(p.aG.length:Int)):=by have:=HIN.out;omega
   go_wp2
   go_loopw [9,29] (λ_ q wr=>q=.int .i64 0/\wr=w3) (λ_ _ _=>0)
   case atStart=>exact⟨rfl,rfl⟩
   case round =>
    obtain⟨rfl,rfl⟩:=hrel;clear y0 y1;obtain⟨y0,y1⟩:=dH Us.out.1
    have hL0:∃ ml,oP ml ([]:List ZD)/\ml.length<=0:=⟨[],oP.nil,bI _⟩
    clear hL0
    obtain⟨b0,hb0⟩:∃ n:Nat,n=p.defs.length:=⟨_,rfl⟩
    go_upto_region 10 with fail
    clear y0 y1 ajc hb0 b0
    rename ¬ (0<p.aG.length)=>hq0
    clear hq0
    go_loopw [11,12,13,40] (λ_ _ _ q wr=>∃ (k:Nat) (mv:Value) (ml:ML) (f1:Fl),k<=p.defs.length/\q=.int .i64 k/\f1=jP none [] (p.defs.take k)/\nL ⟨own,.slice ai p.aG.length ci,.slice ad p.defs.length cd,.slice af ms.length cf,db⟩ lb (.slice none 0 0) f1 wr/\Ap w1.heap.size db mv ml wr/\ml.length<=k/\oP ml (p.defs.take k)/\wr.heap[w.heap.size]?=some (.cells #[.slice ai p.aG.length ci,.slice ad p.defs.length cd] 26 (0,0))/\wr.heap[w.heap.size+1]?=some (.cells #[.int .i64 0,.int .i64 0] 71 (0,0))/\Below w.heap.size w wr/\w1.heap.size<=wr.heap.size) (λ_ _ _ q _=>p.defs.length - (intOf q).toNat)
    case atStart=>exact⟨0,_,[],none,mD _,rfl,rfl,RA.out,HM3.out,bI _,oP.nil,Us.out.1,Us.out.2,rA,iY hzc hz3⟩
    case round =>
     obtain⟨k,mv,ml,f1,hk,rfl,hf1,hlr,hmr,hml,hinv,gp,gr,hbl,hw1⟩:=hrel;have Fx:=hbl.size;have Fy:=ay hlr;have HMR:=ay hmr;have Yu:=ay hinv;have QS:=ay (iq gp gr);have LD:=ay hf1;have Yj:=hlr.lt;have akh:=(bU hmr.box).1
     have QO:bT f1:=by rw[hf1];exact Au _ _ _ bT.none
     have Yi:=ay QO;clear hlr hmr hinv gp gr hf1 QO
     by_cases hlt:k<p.defs.length
     ·obtain⟨_,_,hvv,_,hdf⟩:=HD.out.form
      simp only[Value.slice.injEq] at hvv;obtain⟨rfl,-,rfl⟩:=hvv;obtain⟨b,off,rfl,hPb,hbw,kK⟩:=hdf (by omega);obtain⟨⟨pv,cv,mg,kv⟩,⟨h5,h7,h8⟩,hc⟩:=kK k hlt;obtain⟨ap,cp,rfl⟩:=RowK.slice h5;obtain⟨ac,cc,rfl⟩:=RowK.slice h7;obtain⟨am,wn,cm,ae,ce,rfl,rfl⟩:=nD.Xt h8
      have iU:∀ (j:Nat) (u:Value),w.cell? ⟨b,off+k * 15+j,none⟩=some u->wr.cell? ⟨b,off+k * 15+j,none⟩=some u:=λj u h=>(hbl.cell (p:=⟨b,off+k * 15+j,none⟩) hbw).trans h
      have x0:=iU 0 _ (hc 0 _ rfl);have x1:=iU 1 _ (hc 1 _ rfl);have x2:=iU 2 _ (hc 2 _ rfl);have x3:=iU 3 _ (hc 3 _ rfl);have x4:=iU 4 _ (hc 4 _ rfl);have x5:=iU 5 _ (hc 5 _ rfl);have x6:=iU 6 _ (hc 6 _ rfl);have x7:=iU 7 _ (hc 7 _ rfl);have x8:=iU 8 _ (hc 8 _ rfl);have x9:=iU 9 _ (hc 9 _ rfl);have x10:=iU 10 _ (hc 10 _ rfl);have YT:=iU 11 _ (hc 11 _ rfl);have VA:=iU 12 _ (hc 12 _ rfl);have YU:=iU 13 _ (hc 13 _ rfl);have x14:=iU 14 _ (hc 14 _ rfl);rw[qp] at x0;simp only[dX] at x1 x6 x7;have hfd:=Dy.out.defs _ (oQ hlt);have htk:=EF hlt;have htw:=Nf none hlt;have Ry:=ay (iq htk htw);have HFD:=ay hfd;have H57:=ay (iq h5 h7);clear kK h5 h7 h8 hc iU hdf hfd htk htw;generalize p.defs[k]=d at *;have yD:=aB wr (.cells (iG d ap cp ac cc am wn cm ae ce) 66);have gd:=aZ wr (.cells (iG d ap cp ac cc am wn cm ae ce) 66)
      have qF:(k:Int)<(p.defs.length:Int):=by omega
      go_upto_region 12 with fail
      change Code.wp _ _ _ _ (wr.alloc (.cells (iG d ap cp ac cc am wn cm ae ce) 66));clear x0 x1 x2 x3 x4 x5 x6 x7 x8 x9 x10 YT VA YU x14
      have hdl:wr.heap.size<(wr.alloc (.cells (iG d ap cp ac cc am wn cm ae ce) 66)).heap.size:=by simp
      generalize wr.alloc (.cells (iG d ap cp ac cc am wn cm ae ce) 66)=w4 at *;have D7:=yD.size;have hL4:=Fy.out.below yD;have hM4:=HMR.out.below yD;have HL4:=ay hL4;have HM4:=ay hM4;have HGD:=ay gd;have HG4:=ay (iq ((yD.block _ (by omega)).trans QS.out.1) ((yD.block _ (by omega)).trans QS.out.2));have hb4:=hbl.trans (yD.mono Fx);obtain⟨u0,u1,u2,u3,hgf,hone⟩:=acN hM4.wf d.res.name;have af5:=ay (λW (hW:Below w4.heap.size w4 W)=>(QL w1.heap.size db mv ml d.res.name W (hM4.below hW) (by omega)).mono λe w' q=>hgf W e w' q)
      have s0:=λa m W=>run_store Tryz.prog W a u0 m (hone u0 (by simp))
      have s1:=λa m W=>run_store Tryz.prog W a u1 m (hone u1 (by simp))
      have s2:=λa m W=>run_store Tryz.prog W a u2 m (hone u2 (by simp))
      have s3:=λa m W=>run_store Tryz.prog W a u3 m (hone u3 (by simp))
      obtain⟨m,hm⟩:∃ m,m=l8 ml d.res.name:=⟨_,rfl⟩
      rw[<- hm] at af5;have yB:=ay hm;have k5:=hL4.cells.1.2.2.2.2.2.1;have y1:=(aY gd).2.1
      have hne1:lb≠w4.heap.size:=by omega
      have hne2:wr.heap.size≠w4.heap.size:=by omega
      clear hL4 hM4 gd hgf hone hm Fy HMR QS
      go_cut [12,13] (λ_ v wc=>v=.bool m/\Below w4.heap.size w4 wc)
      case first =>
       go_region_held3 (λW=>W.cell? ⟨lb,5,none⟩=some (.pointer (some ⟨db,0,none⟩))/\W.cell? ⟨wr.heap.size,1,none⟩=some (.string ⟨d.res.name.toArray⟩))
        (first|(with_reducible exact p3)|(with_reducible exact iq ((nN w5 w4.heap.size lb 5 _ _ _ _ hne1).trans p3.1) ((nN w5 w4.heap.size wr.heap.size 1 _ _ _ _ hne2).trans p3.2))|(go_keep;done))
        (first|(go_at_call 49;refine(af5.out _ ?_).mono ?_;(first|exact(bY _ _).drew|exact((bY _ _).alloc (bI _) _).drew);rintro e w5 ⟨rfl,hb5⟩;have zm:Below w4.heap.size w4 w5:=(by first|exact(bY _ _).drew.trans hb5|exact((bY _ _).alloc (bI _) _).drew.trans (hb5.mono (by simp)));have p3:=iq (jy zm k5) (jy zm y1);try (have hT:=(hb5.block w4.heap.size (by simp)).trans (aZ w4 (.cells #[.string ⟨#[]⟩,.slice none 0 0,.int .i64 0,.slice none 0 0] 53));obtain⟨⟨t0,t1,t2,t3⟩,g0,g1,g2,g3⟩:=sS hT)))
       ·clear s0 s1 s2 s3 p3
        go_wp2_with fail
        go_meet
        exact⟨rfl,zm.alloc zm.size _⟩
       ·clear s0 s1 s2 s3 p3
        go_wp2_with fail
        go_meet
        exact⟨rfl,kD zm (bI _) u0 u1 u2 u3⟩
      case rest =>
       obtain⟨rfl,zm⟩:=hcut
       obtain⟨w5,rfl⟩:∃ w5:World,w5=wc:=⟨_,rfl⟩
       clear k5 y1 s0 s1 s2 s3 af5;have U8:=zm.size;have Yl:=ay (HL4.out.below zm);have HM5:=ay (HM4.out.below zm);have af6:=(zm.block _ hdl).trans HGD.out;have HG5:=ay (iq ((zm.block _ (by omega)).trans HG4.out.1) ((zm.block _ (by omega)).trans HG4.out.2));have hb5:=hb4.trans (zm.mono hb4.size);obtain⟨y0,y1,y2,y3,y4,y5,y6,y7,y8,y9,um,uo,uq,y13,VQ⟩:=aY af6;have acE:=ay af6;have k5:=Yl.out.cells.1.2.2.2.2.2.1;clear af6 HL4 HM4 HG4 HGD
       have QT:w.heap.size≠lb:=by omega
       have ahD:w.heap.size+1≠lb:=by omega
       cases m with
       | true =>
        have VP:=ay (yX _ lb _ f1 30 d.res.at_ w5 Yl.out Yi.out)
        have hnx:nG f1 (some (30,d.res.at_))=jP none [] (p.defs.take (k+1)):=by
         have hh:=Yu.out.has d.res.name;rw[<- yB.out] at hh;rw[Ry.out.2,<- LD.out,bq (V7 hh.symm)]
        have hiv:oP ml (p.defs.take (k+1)):=by rw[Ry.out.1];exact Yu.out.same yB.out.symm
        have ER:=ay (iq hnx hiv);clear hnx hiv;go_wp2_with (go_at_call 50;refine VP.out.mono ?_;rintro e w6 ⟨rfl,hl6,qY⟩)
        go_roundw
        case rel=>exact⟨k+1,mv,ml,_,by omega,by go_num,ER.out.1,hl6,HM5.out.alk qY.2 (λq=>hne q.symm) (λb hb q=>by subst q;exact own_ne HM5.out.own Yl.out (by decide) hb),by omega,ER.out.2,(qY.2.2 _ QT (by omega)).trans HG5.out.1,(qY.2.2 _ ahD (by omega)).trans HG5.out.2,hb5.trans (qY.1 _ (by omega)),iY (iY hw1 (iY D7 U8)) qY.2.1⟩
        case measure=>simp[intOf];omega
       | false =>
        have HOF:=ay (λW (hW:Below w5.heap.size w5 W)=>Yr (λb=>b<w.heap.size) d ap cp ac cc am wn cm ae ce W HFD.out (RowK.frame H57.out.1 (bA.of (hb5.trans (hW.mono hb5.size)))) (RowK.frame H57.out.2 (bA.of (hb5.trans (hW.mono hb5.size)))));unfold VY iG at HOF;have ajd:=ay (λ(W:World) (hW:Below w5.heap.size w5 W) (a6:Option Addr) (c6:Nat) (a7:Option Addr) (c7:Nat)=>acA w1.heap.size db mv ml d.res.name (.string ⟨d.res.name.toArray⟩) (.slice a6 d.params.length c6) (.int .i64 d.res.base) (.slice a7 d.res.aC.length c7) W (HM5.out.below hW) (by have:=hW.size;omega) hdb (by omega) yB.out.symm (by simp[Value.oneCell']));have aki:db<w5.heap.size:=(bU HM5.out.box).1
        have hwd:wr.heap.size≠db:=by omega
        have hOL:some lb≠mv.ownBlock:=own_ne HM5.out.own Yl.out (by decide);have hOD:some wr.heap.size≠mv.ownBlock:=own_ne HM5.out.own acE.out (by decide);have hOP:some w.heap.size≠mv.ownBlock:=own_ne HM5.out.own HG5.out.1 (by decide);have hOR:some (w.heap.size+1)≠mv.ownBlock:=own_ne HM5.out.own HG5.out.2 (by decide)
        have HS:Hid (∀ W,bA (λb=>b≠db/\some b≠mv.ownBlock) w5 W->((W.cell? ⟨wr.heap.size,0,none⟩=some (.bool d.pub)/\W.cell? ⟨wr.heap.size,1,none⟩=some (.string ⟨d.res.name.toArray⟩)/\W.cell? ⟨wr.heap.size,2,none⟩=some (.slice ap d.params.length cp)/\W.cell? ⟨wr.heap.size,3,none⟩=some (.int .i64 d.res.base)/\W.cell? ⟨wr.heap.size,4,none⟩=some (.slice ac d.res.aC.length cc)/\W.cell? ⟨wr.heap.size,5,none⟩=some (.int .i64 d.body.op)/\W.cell? ⟨wr.heap.size,6,none⟩=some (.string ⟨d.body.name.toArray⟩)/\W.cell? ⟨wr.heap.size,7,none⟩=some (.string ⟨d.body.module.toArray⟩)/\W.cell? ⟨wr.heap.size,8,none⟩=some (.bool (decide (d.body.num<0)))/\W.cell? ⟨wr.heap.size,9,none⟩=some (.slice am wn cm)/\W.cell? ⟨wr.heap.size,10,none⟩=some (.bool d.body.yes)/\W.cell? ⟨wr.heap.size,11,none⟩=some (.slice ae d.body.aA.length ce)/\W.cell? ⟨wr.heap.size,12,none⟩=some (.int .i64 d.body.at_)/\W.cell? ⟨wr.heap.size,13,none⟩=some (.int .i64 d.res.at_)/\W.cell? ⟨wr.heap.size,14,none⟩=some (.int .i64 d.res.bare))/\W.cell? ⟨lb,5,none⟩=some (.pointer (some ⟨db,0,none⟩)))):=ay λW hW=>⟨aY ((hW.2 _ ⟨hwd,hOD⟩ (by omega)).trans acE.out),((AJ (a:=⟨lb,5,none⟩) (hW.2 lb ⟨hne,hOL⟩ (by omega))).trans k5)⟩
        go_upto_region 15 with fail
        go_region_held3 (λW=>(W.cell? ⟨wr.heap.size,0,none⟩=some (.bool d.pub)/\W.cell? ⟨wr.heap.size,1,none⟩=some (.string ⟨d.res.name.toArray⟩)/\W.cell? ⟨wr.heap.size,2,none⟩=some (.slice ap d.params.length cp)/\W.cell? ⟨wr.heap.size,3,none⟩=some (.int .i64 d.res.base)/\W.cell? ⟨wr.heap.size,4,none⟩=some (.slice ac d.res.aC.length cc)/\W.cell? ⟨wr.heap.size,5,none⟩=some (.int .i64 d.body.op)/\W.cell? ⟨wr.heap.size,6,none⟩=some (.string ⟨d.body.name.toArray⟩)/\W.cell? ⟨wr.heap.size,7,none⟩=some (.string ⟨d.body.module.toArray⟩)/\W.cell? ⟨wr.heap.size,8,none⟩=some (.bool (decide (d.body.num<0)))/\W.cell? ⟨wr.heap.size,9,none⟩=some (.slice am wn cm)/\W.cell? ⟨wr.heap.size,10,none⟩=some (.bool d.body.yes)/\W.cell? ⟨wr.heap.size,11,none⟩=some (.slice ae d.body.aA.length ce)/\W.cell? ⟨wr.heap.size,12,none⟩=some (.int .i64 d.body.at_)/\W.cell? ⟨wr.heap.size,13,none⟩=some (.int .i64 d.res.at_)/\W.cell? ⟨wr.heap.size,14,none⟩=some (.int .i64 d.res.bare))/\W.cell? ⟨lb,5,none⟩=some (.pointer (some ⟨db,0,none⟩)))
         (first|(with_reducible exact p3)|(go_keep;done))
         (first
          | (go_at_call 32;refine(HOF.out _ (bY _ _).drew).mono ?_;rintro e w6 ⟨a6,c6,a7,c7,rfl,-,hb6⟩;have hq6:Below w5.heap.size w5 w6:=(bY _ _).drew.trans hb6;have p3:=HS.out w6 (bA.of hq6))
          | (go_at_call 51;refine(ajd.out w6 hq6 a6 c6 a7 c7).mono ?_;rintro e w7 ⟨rfl,⟨mv',hM7⟩,BI,ha7⟩;have hq7:=(bA.of (P:=λb=>b≠db/\some b≠mv.ownBlock) hq6).trans ha7;have p3:=HS.out w7 hq7))
        all_goals
         have hnx:f1=jP none [] (p.defs.take (k+1)):=by
          have hh:=Yu.out.has d.res.name;rw[<- yB.out] at hh;rw[Ry.out.2,<- LD.out,aP (of_decide_eq_false hh.symm),qJ]
         have hiv:oP (qh ml d.res.name [.string ⟨d.res.name.toArray⟩,.slice a6 d.params.length c6,.int .i64 d.res.base,.slice a7 d.res.aC.length c7]) (p.defs.take (k+1)):=by rw[Ry.out.1];exact Yu.out.ins yB.out.symm _ _ _ _ _
         have ER:=ay (iq hnx hiv);have HM7:=ay hM7;clear hnx hiv hM7 p3 y0 y1 y2 y3 y4 y5 y6 y7 y8 y9 um uo uq y13 VQ k5 HS;go_wp2_with fail
         go_roundw
         case rel=>exact⟨k+1,mv',_,f1,by omega,by go_num,ER.out.1,(hq7.2 lb ⟨hne,hOL⟩ (by omega)).trans Yl.out,HM7.out,by rw[Cc];omega,ER.out.2,(hq7.2 _ ⟨by omega,hOP⟩ (by omega)).trans HG5.out.1,(hq7.2 _ ⟨by omega,hOR⟩ (by omega)).trans HG5.out.2,(hb5.trans (hq6.mono hb5.size)).trans (BI.mono hz1),iY (iY hw1 (iY D7 U8)) hq7.1⟩
         case measure=>simp[intOf];omega
     ·obtain rfl:k=p.defs.length:=by omega
      obtain⟨wq,rfl⟩:∃ wq:World,wq=wr:=⟨_,rfl⟩
      have adT:decide ((p.defs.length:Int)<(p.defs.length:Int))=false:=fu (by omega);have af7:=LD.out;rw[Fe] at af7;have acO:=Yu.out;rw[Fe] at acO
      have hSC:ScM ⟨[],iT p.defs,λ_ _=>none⟩ ⟨own,.slice ai p.aG.length ci,.slice ad p.defs.length cd,.slice af ms.length cf,db⟩ lb w1.heap.size (.slice none 0 0) wq:=⟨⟨mv,ml,HMR.out,by omega,acO.ar⟩,gQ.nil _ _,List.Pairwise.nil,mD _,⟨ms,iY HMS.out.1 (by decide),(RowK.frame HFC.out (bA.of hbl)).imp λb hb _=>by omega⟩,rfl⟩
      have HSC:=ay hSC;have HE2:Hid (R=sJ ⟨[],iT p.defs,λ_ _=>none⟩ f1 p.defs):=ay (by rw[HE.out,af7,ZP.fB,ZP.se,HI.out];rfl);obtain⟨y0,y1⟩:=dH QS.out.1;clear hSC af7 acO Yu HE LD
      go_upto_region 18 with fail
      clear y0 y1
      go_loopw [15,72] (λ_ q wx=>∃ (k:Nat) (fk:Fl),k<=p.defs.length/\q=.int .i64 k/\fk=sJ ⟨[],iT p.defs,λ_ _=>none⟩ f1 (p.defs.take k)/\bT fk/\nL ⟨own,.slice ai p.aG.length ci,.slice ad p.defs.length cd,.slice af ms.length cf,db⟩ lb (.slice none 0 0) fk wx/\aR lb wq wx) (λ_ q _=>p.defs.length - (intOf q).toNat)
      case atStart=>exact⟨0,f1,mD _,rfl,rfl,Yi.out,Fy.out,aR.refl _ _⟩
      case round =>
       obtain⟨k,fk,hk2,rfl,JV,hfo,hlx,hkx⟩:=hrel;have hzx:=hkx.2.1;have HLX:=ay hlx;have HFK:=ay JV;have JB:=ay hfo;have aje:=hlx.lt;have af8:Below w.heap.size w wr:=hbl.trans (hkx.1 _ (by omega));clear hlx JV hfo
       by_cases hlt:k<p.defs.length
       ·obtain⟨_,_,hvv,_,hdf⟩:=HD.out.form
        simp only[Value.slice.injEq] at hvv;obtain⟨rfl,-,rfl⟩:=hvv;obtain⟨b,off,rfl,hPb,hbw,kK⟩:=hdf (by omega);obtain⟨⟨pv,cv,mg,kv⟩,⟨h5,h7,h8⟩,hc⟩:=kK k hlt;obtain⟨ap,cp,rfl⟩:=RowK.slice h5;obtain⟨ac,cc,rfl⟩:=RowK.slice h7;obtain⟨am,wn,cm,ae,ce,rfl,rfl⟩:=nD.Xt h8
        have iU:∀ (j:Nat) (u:Value),w.cell? ⟨b,off+k * 15+j,none⟩=some u->wr.cell? ⟨b,off+k * 15+j,none⟩=some u:=λj u h=>(af8.cell (p:=⟨b,off+k * 15+j,none⟩) hbw).trans h
        have x0:=iU 0 _ (hc 0 _ rfl);have x1:=iU 1 _ (hc 1 _ rfl);have x2:=iU 2 _ (hc 2 _ rfl);have x3:=iU 3 _ (hc 3 _ rfl);have x4:=iU 4 _ (hc 4 _ rfl);have x5:=iU 5 _ (hc 5 _ rfl);have x6:=iU 6 _ (hc 6 _ rfl);have x7:=iU 7 _ (hc 7 _ rfl);have x8:=iU 8 _ (hc 8 _ rfl);have x9:=iU 9 _ (hc 9 _ rfl);have x10:=iU 10 _ (hc 10 _ rfl);have YT:=iU 11 _ (hc 11 _ rfl);have VA:=iU 12 _ (hc 12 _ rfl);have YU:=iU 13 _ (hc 13 _ rfl);have x14:=iU 14 _ (hc 14 _ rfl);rw[qp] at x0;simp only[dX] at x1 x6 x7;have HFD:=ay (Dy.out.defs _ (oQ hlt));have Ry:=ay (Qo ⟨[],iT p.defs,λ_ _=>none⟩ f1 hlt);have af9:bA (λb=>b<w.heap.size) w wr:=bA.of af8
        have h5':=(RowK.frame h5 af9).imp (Q:=λb=>b≠lb) λb hb _=>by omega
        have h7':=(RowK.frame h7 af9).imp (Q:=λb=>b≠lb) λb hb _=>by omega
        have h8':=nD.imp (Q:=λb=>b≠lb) (λb hb _=>by omega) (nD.frame af9 h8);have aga:=ay (iq h5' (iq h7' h8'));clear kK h5 h7 h8 hc iU hdf h5' h7' h8';generalize p.defs[k]=d at *;have yD:=aB wr (.cells (iG d ap cp ac cc am wn cm ae ce) 66);have gd:=aZ wr (.cells (iG d ap cp ac cc am wn cm ae ce) 66)
        have qF:(k:Int)<(p.defs.length:Int):=by omega
        go_upto_region 20 with fail
        change Code.wp _ _ _ _ (wr.alloc (.cells (iG d ap cp ac cc am wn cm ae ce) 66));clear x0 x1 x2 x3 x4 x5 x6 x7 x8 x9 x10 YT VA YU x14;generalize wr.alloc (.cells (iG d ap cp ac cc am wn cm ae ce) 66)=w4 at *;have D7:=yD.size;have hk4:=hkx.trans (aR.of yD aje);have hL4:=HLX.out.below yD;have HDF:=ay (acD _ _ lb w1.heap.size (.slice none 0 0) fk d ap cp ac cc am wn cm ae ce w4 hL4 (HSC.out.keep Fy.out hk4.2) JB.out HFD.out (RowK.frame aga.out.1 (bA.of yD)) (RowK.frame aga.out.2.1 (bA.of yD)) (nD.frame (bA.of yD) aga.out.2.2));unfold iG at HDF;obtain⟨y0,y1,y2,y3,y4,y5,y6,y7,y8,y9,um,uo,uq,y13,VQ⟩:=aY gd;have hfd:bT (BN ⟨[],iT p.defs,λ_ _=>none⟩ fk d):=((yY _ _ _ JB.out).or (qj _ _ _ _)).or (PZ.sU _ _ _ _);have ER:=ay (iq (show BN ⟨[],iT p.defs,λ_ _=>none⟩ fk d=sJ ⟨[],iT p.defs,λ_ _=>none⟩ f1 (p.defs.take (k+1)) by rw[Ry.out,<- HFK.out]) hfd);clear hL4 gd hfd;go_wp2_with (go_at_call 52;refine HDF.out.mono ?_;rintro e w6 ⟨rfl,hl6,qY⟩)
        go_roundw
        case rel=>exact⟨k+1,_,by omega,by go_num,ER.out.1,ER.out.2,hl6,hk4.trans qY⟩
        case measure=>simp[intOf];omega
       ·obtain rfl:k=p.defs.length:=by omega
        have qF:decide ((p.defs.length:Int)<(p.defs.length:Int))=false:=fu (by omega);have HE3:Hid (R=fk):=ay (by rw[HE2.out,HFK.out,Fe]);have ajf:=(bU QS.out.2).1;have gr9:=(hkx.2.2 (w.heap.size+1) (by omega) ajf).trans QS.out.2;obtain⟨⟨r0,r1⟩,rz0,rz1⟩:=dF gr9;obtain⟨⟨k0,k1,k2,k3,k4,k5,k6,k7⟩,-⟩:=HLX.out.cells;have HP:=ay (wF gr9 (.int .i64 (EA fk)) (.int .i64 (JA fk)));have HB:=ay (wE af8 (by omega:w.heap.size<=w.heap.size+1) (.int .i64 (EA fk)) (.int .i64 (JA fk)));clear gr9 HFK;go_wp2;change bodyPost _ _ _ _ _ (J9 wr (w.heap.size+1) (.int .i64 (EA fk)) (.int .i64 (JA fk)));generalize J9 wr _ _ _=w9 at *;obtain⟨⟨d0,d1⟩,-⟩:=dF HP.out;exact o9 (v:=.agg #[.int .i64 (EA fk),.int .i64 (JA fk)]) (by simp[results,Tryz.results21,go_sem,d0,d1]) rfl ⟨by rw[HE3.out],HB.out⟩
variable{a b:List Tok}{c:CE}{p:lD}{aj:List Nd}{S own:aH}{e e':PZ}{a1 b1 a2 b2 a3 b3 c1 d1 c2 d2 c3 d3:Int}
def ql (f:Fl):List ZD->Fl
 | []=>f
 | d :: l=>ql (Ie f d) l
theorem EC (d:ZD):∀ (l:List ZD) (f:Fl),ql f (l++[d])=Ie (ql f l) d
 | [],f=>rfl
 | x :: l,f=>EC d l _
theorem QZ (f:Fl){l:List ZD}{k:Nat}(h:k<l.length):ql f (l.take (k+1))=Ie (ql f (l.take k)) l[k]:=by
 rw[EF h,EC]
def ZP.types (p:ZP)(own:aH):Fl:=match p.check own [] with
 | some x=>some x
 | none=>ql none p.defs
theorem Dz (A:cZ a b){u:Nat}(h:aJ a u∈[oh,jJ]):aJ b u∈[oh,jJ]:=by
 rcases(A.peek u).2 with q|q
 ·rw[aJ,q];exact h
 ·rw[aJ,q.2];decide
theorem Yv (A:cZ a b)(h:(lD.mk 0 [⟨false,[⟨none⟩,⟨none⟩],⟨none⟩,c⟩]).ok a):(lD.mk 0 [⟨false,[⟨none⟩,⟨none⟩],⟨none⟩,c⟩]).ok b:=by
 have hd:dY.ok a 0 ⟨false,[⟨none⟩,⟨none⟩],⟨none⟩,c⟩:=h.2.2.2.1;obtain⟨h1,h2,h3,h4,⟨⟨k1,k2,_⟩,⟨k3,k4,_⟩,_⟩,⟨k5,_⟩,h6⟩:=hd
 have hb:dY.ok b 0 ⟨false,[⟨none⟩,⟨none⟩],⟨none⟩,c⟩ :=
  ⟨(λq=>by cases q),jG A h2 (by decide),by rw[kg A];exact h3,h4,⟨⟨by rw[kg A];exact k1,Dz A k2,trivial⟩,⟨by rw[kg A];exact k3,Dz A k4,trivial⟩,trivial⟩,⟨Dz A k5,trivial⟩,CE.j6 A c _ h6⟩
 exact⟨mD _,h.2.1,trivial,hb,trivial⟩
theorem uH {d:Nat}{ah:List Tok}(hd:d<=200)(h:gF S d=.good ah aj)(hl:bV S=.ok ah)(he:aj=p.pt.em 0 0)(hok:p.ok ah)(hlv:p.pt.lv=ah.length)(hn:aj.length<=2 * ah.length):mM S ah aj p:=by
 have hs:S.length<=65536:=by
  unfold bV at hl
  split at hl
  ·cases hl
  ·omega
 have hL:=ji hl
 have hM:∀ u,(aJ ah u).length<=S.length+1:=λu=>Nat.le_succ_of_le (GK hl u)
 have hN:=tO hl
 have hnd:aj.length=p.pt.nd:=by rw[he,PT.vO]
 exact⟨hs,hl,he,hok,hlv,hL.count,by omega,Px hl he p.wf hlv (by omega),hL.OY,Bw hd h,lD.CW (λcl e u ho _=>CE.fits hL.some hN hM (by omega) e u ho) hok,lD.CW (λcl e u ho _=>CE.told (zw hl) e u ho) hok,lD.CW (λcl e u ho hn=>iY (CE.iM ah e u) hn) hok,lD.Pw hM hok⟩
theorem Q0 {S':aH}(F:mM S a aj p)(A:cZ a b)(h:gF S' 60=.good b aj)(hok:p.ok b):mM S' b aj p:=by
 obtain⟨hl,_,_,_,_,hn,_⟩:=G8 h;exact uH (by omega) h hl F.Bu hok (by rw[A.len];exact F.lv) hn
theorem NJ (b a1 b1 a2 b2 a3 b3:Int)(e:PZ):iT [kC b a1 b1 a2 b2 a3 b3 e]=λnm=>if ([103]:aH)=nm then some 2 else none:=by
 funext x
 unfold iT
 by_cases h:([103]:aH)=x
 ·rw[List.find?_cons_of_pos (by exact kS h),bq h]
  rfl
 ·rw[List.find?_cons_of_neg (by show ¬ decide (([103]:aH)=x)=true;rw[fu h];decide),aP h]
  rfl
theorem Ck (own:aH)(face:aH->Bool)(ext:aH->aH->Option Nat)(b a1 b1 a2 b2 a3 b3:Int)(e:PZ) :
  ZP.fB ⟨[],[kC b a1 b1 a2 b2 a3 b3 e]⟩ own face ext=e.fB ⟨[],λnm=>if ([103]:aH)=nm then some 2 else none,ext⟩ (gB (gB ([]++[[120]])++[[121]])) false:=by
 have h:([121]:aH) ∉ gB ([]++[[120]]):=λq=>by rw[abm] at q;simp at q
 rw[ZP.fB,ZP.se];simp only;rw[NJ];simp only[sJ,BN,jP,kC,mI,dB,List.not_mem_nil,if_false,Nc,h,nG]
theorem NK {b c:Int}(hb:b=1\/b=2)(hc:c=1\/c=2)(h:e'.na=e.na)(hk:ZP.check ⟨[],[kC b a1 b1 a2 b2 a3 b3 e]⟩ own []=none) :
  ZP.check ⟨[],[kC c c1 d1 c2 d2 c3 d3 e']⟩ own []=none:=by
 have hr:ZP.right ⟨[],[kC c c1 d1 c2 d2 c3 d3 e']⟩=ZP.right ⟨[],[kC b a1 b1 a2 b2 a3 b3 e]⟩:=by
  have h1:e'.right false=e.right false:=by rw[<- PZ.Ih,h,PZ.Ih]
  have h2:∀ x:Int,(x=1\/x=2)->lU x []=true:=λx hx=>by rcases hx with rfl|rfl<;>rfl
  simp only[ZP.right,kC,List.all_cons,List.all_nil,ZD.sound,h1,h2 b hb,h2 c hc,dN,iF,List.any_cons,List.any_nil,ZF.right]
 rw[ZP.check] at hk |-;rw[hr]
 split at hk
 ·rename_i hq
  rw[bq hq,Ck];rw[Ck] at hk;rw[<- PZ.Ii,h,PZ.Ii];exact hk
 ·cases hk
theorem NP (h:e'.na=e.na)(hk:ZP.types ⟨[],[kC 1 a1 b1 a2 b2 a3 b3 e]⟩ own=none) :
  ZP.types ⟨[],[kC 2 c1 d1 c2 d2 c3 d3 e']⟩ own=some (34,e'.at_):=by
 unfold ZP.types at hk |-
 split at hk
 ·cases hk
 ·rename_i hn
  rw[NK (.inl rfl) (.inr rfl) h hn];simp only[ql,Ie,kC,ug] at hk |-;have hs:=abY h.symm (Ak (Ak (λ_=>none) [120] 1) [121] 2) 0 none none Iff.rfl;rw[mO,lW] at hk;obtain⟨k1,k2⟩:=hk
  have kb:(e.ty (Ak (Ak (λ_=>none) [120] 1) [121] 2) 0 none).1=1:=by
   split at k2
   ·assumption
   ·cases k2
  rw[mO,hs.2.1 k1,<- hs.1,kb]
  rfl
theorem PE.ajg (e:PE):e.z.at_=(e.at_:Int):=by cases e;rw[PE.z];rfl
theorem Jj {α β:Type}(f:α->List β)(K:Nat):∀ l:List α,(∀ x∈l,(f x).length<=K)->(l.flatMap f).length<=l.length * K
 | [],_=>by simp
 | x :: l,h=>by
  rw[List.flatMap_cons,bQ,dN,Nat.succ_mul];have h1:=h x xq
  have h2:=Jj f K l λy hy=>h y (xu _ hy)
  omega
theorem Jk (K:Nat):∀ l:List aH,(∀ x∈l,x.length<=K)->(bR l).length<=l.length * (K+2)
 | [],_=>by simp[bR]
 | [x],h=>by
  have:=h x xq;simp only[bR,dN,iF];omega
 | x :: y :: l,h=>by
  have h1:=h x xq
  have h2:=Jk K (y :: l) λz hz=>h z (xu _ hz)
  rw[bR,bQ,bQ,dN (a:=x),Nat.succ_mul];simp only[dN,iF] at h2 |-;omega
theorem Yw (b:Int):(wQ b).length<=4:=by unfold wQ;split<;>simp
theorem ED (K:Nat):∀ l:List PZ,(∀ e∈l,e.text.length<=K)->(gW l).length<=l.length * (K+3)
 | [],_=>by simp[gW]
 | e :: l,h=>by
  have h1:=h e xq
  have h2:=ED K l λz hz=>h z (xu _ hz)
  rw[gW,dN,Nat.succ_mul];simp only[bQ,dN,iF];omega
theorem Jl (b:Int)(l:List PZ)(hl:l.length<=1)(h:∀ e∈l,e.text.length<=750000000):(lV b l).length<=750000007:=by
 have h1:=Yw b;have h2:=ED _ l h;have h3:l.length * (750000000+3)<=1 * (750000000+3):=Nat.mul_le_mul_right _ hl;rw[lV,bQ];omega
def Yx (e:PZ):Prop:=e.fit/\e.size<=2500
theorem Yx.text {e:PZ}(h:Yx e):e.text.length<=750000000:=by
 have h1:=PZ.Im e h.1;have h2:=h.2;omega
structure ZF.mid (f:ZF):Prop where
 name:f.name.length<=65536
 few:f.aC.length<=1
 all:∀ e∈f.aC,Yx e
structure ZD.mid (d:ZD):Prop where
 mG:∀ f∈d.params,f.mid
 few:d.params.length<=8
 res:d.res.mid
 body:Yx d.body
structure ZP.mid (p:ZP):Prop where
 imps:∀ m∈p.aG,m.1.length<=65536
 Xf:p.aG.length<=16
 defs:∀ d∈p.defs,d.mid
 MI:p.defs.length<=64
theorem ZF.mid.text {f:ZF}(h:f.mid):f.text.length<=750065545:=by
 have h1:=Jl f.base f.aC h.few λe he=>(h.all e he).text
 have h2:=h.name;rw[ZF.text];simp only[bQ,dN,iF];omega
theorem ZD.mid.text {d:ZD}(h:d.mid):d.text.length<=7700000000:=by
 have h1:=Jl d.res.base d.res.aC h.res.few λe he=>(h.res.all e he).text
 have h2:=h.res.name;have h3:=h.body.text
 have h4:=Jk 750065545 (d.params.map ZF.text) λx hx=>by
  obtain⟨f,hf,rfl⟩:=List.mem_map.1 hx;exact(h.mG f hf).text
 have h5:(d.params.map ZF.text).length * (750065545+2)<=8 * (750065545+2):=Nat.mul_le_mul_right _ (by rw[vL];exact h.few)
 have h6:(if d.pub=true then [112,117,98,32] else []:aH).length<=4:=by split<;>simp
 rw[ZD.text];simp only[bQ,dN,iF];omega
theorem ZP.mid.text {p:ZP}(h:p.mid):p.text.length<=1099511627776:=by
 have h1:=Jj uG 65545 p.aG λm hm=>by
  have:=h.imps m hm;rw[uG];simp only[bQ,dN,iF];omega
 have h2:=Jj ZD.text 7700000000 p.defs λd hd=>(h.defs d hd).text
 have h3:p.aG.length * 65545<=16 * 65545:=Nat.mul_le_mul_right _ h.Xf;have h4:p.defs.length * 7700000000<=64 * 7700000000:=Nat.mul_le_mul_right _ h.MI;rw[ZP.text,bQ];omega
theorem ZF.mid.fit {f:ZF}(h:f.mid):f.fit:=⟨h.name,by have:=h.few;omega,λe he=>(h.all e he).1⟩
theorem ZD.mid.fit {d:ZD}(h:d.mid):d.fit:=⟨by have:=h.few;omega,λf hf=>(h.mG f hf).fit,h.res.fit,h.body.1⟩
theorem ZD.mid.uw {d:ZD}(h:d.mid):d.uw :=
 ⟨by have:=h.few;omega,λf hf=>⟨by have:=(h.mG f hf).few;omega,λe he=>by have:=((h.mG f hf).all e he).2;omega⟩,⟨by have:=h.res.few;omega,λe he=>by have:=(h.res.all e he).2;omega⟩,by have:=h.body.2;omega⟩
theorem ZP.mid.uw {p:ZP}(h:p.mid):p.uw :=
 ⟨⟨by have:=h.Xf;omega,h.imps,by have:=h.MI;omega,λd hd=>(h.defs d hd).fit⟩,h.text,by have:=h.MI;omega,λd hd=>(h.defs d hd).uw⟩
theorem FF.small.mid {M:Nat}{f:FF}(h:f.small M)(hM:M<=65536)(ha:f.all λe=>Yx e.z):f.z.mid :=
 ⟨iY h.name hM,by show (f.aC.map PE.z).length<=1;rw[vL];exact h.aC,λe he=>by obtain⟨x,hx,rfl⟩:=List.mem_map.1 he;exact ha x hx⟩
theorem PP.small.mid {M:Nat}{p:PP}(h:p.small M)(hM:M<=65536)(ha:p.all λe=>Yx e.z):p.z.mid:=by
 refine⟨λm hm=>?_,by show (p.aG.map _).length<=16;rw[vL];exact h.Xf,λd hd=>?_,by show (p.defs.map _).length<=64;rw[vL];exact h.MI⟩
 ·obtain⟨x,hx,rfl⟩:=List.mem_map.1 hm
  exact iY (h.aG x hx) hM
 ·obtain⟨x,hx,rfl⟩:=List.mem_map.1 hd
  have h1:=h.defs x hx;have h2:=ha x hx;refine⟨λf hf=>?_,by show (x.params.map _).length<=8;rw[vL];exact h1.few,h1.res.mid hM h2.2.1,h2.2.2⟩;obtain⟨y,hy,rfl⟩:=List.mem_map.1 hf;exact(h1.params y hy).mid hM (h2.1 y hy)
theorem mM.mid {S:aH}{ah:List Tok}{aj:List Nd}{p:lD}(F:mM S ah aj p)(hs:S.length<=1200):(p.pp ah).z.mid :=
 F.aa8.mid (by omega) (PP.Vl F.fits F.few F.few λe h1 h2 _=>by
  have h3:=F.nd;have h4:=F.count
  exact⟨PE.aeK (by omega) e h1 (by omega),by rw[PE.acn];omega⟩)
def tnS (l:aH):aH:=[102,117,110,32,102,40,120,58,105,110,116,41,58,98,111,111,108,61,120]++l
def tnT (l:List Tok):List Tok:=[⟨2,[],[102,117,110],0⟩,⟨1,[32],[102],4⟩,⟨4,[],[40],5⟩,⟨1,[],[120],6⟩,⟨4,[],[58],7⟩,⟨2,[],[105,110,116],8⟩,⟨4,[],[41],11⟩,⟨4,[],[58],12⟩,⟨2,[],[98,111,111,108],13⟩,⟨4,[],[61],17⟩,⟨1,[],[120],18⟩]++l
def tn1:List Tok:=tnT [⟨4,[],[59],19⟩,⟨5,[],[],20⟩]
def tn2:List Tok:=tnT [⟨4,[],[61],19⟩,⟨3,[],[49],20⟩,⟨4,[],[59],21⟩,⟨5,[],[],22⟩]
def Yy (c:CE):lD:=⟨0,[⟨false,[⟨none⟩],⟨none⟩,c⟩]⟩
theorem aeg:bV (tnS [59])=.ok tn1:=by rfl
theorem aeh:bV (tnS [61,49,59])=.ok tn2:=by rfl
theorem Q6:gF (tnS [59]) 60=.good tn1 ((Yy .Cr).pt.em 0 0):=by kernel_rfl
theorem Q7:gF (tnS [61,49,59]) 60=.good tn2 ((Yy (.bin .Cr .num)).pt.em 0 0):=by kernel_rfl
theorem aeN {T:List Tok}(h0:aJ T 0=JW)(h1:gq T 1=1)(h3:gq T 3=1)(h5:aJ T 5=oh)(h8:aJ T 8=jJ)(h:c.ok T false 10):(Yy c).ok T :=
 ⟨mD _,by show 1<=64;omega,trivial,⟨(λh=>by cases h),h0,h1,by show 1<=8;omega,⟨⟨h3,by have q:aJ T 5∈[oh,jJ]:=(by rw[h5];exact .head _);exact q,trivial⟩,trivial⟩,⟨by have q:aJ T 8∈[oh,jJ]:=(by rw[h8];exact .tail _ (.head _));exact q,trivial⟩,h⟩,trivial⟩
theorem Q8:mM (tnS [59]) tn1 ((Yy .Cr).pt.em 0 0) (Yy .Cr):=uH (d:=60) (by omega) Q6 aeg rfl (aeN rfl rfl rfl rfl rfl (by simp only[CE.ok];rfl)) (by decide) (by decide)
theorem Q9:mM (tnS [61,49,59]) tn2 ((Yy (.bin .Cr .num)).pt.em 0 0) (Yy (.bin .Cr .num)):=uH (d:=60) (by omega) Q7 aeh rfl (aeN rfl rfl rfl rfl rfl (by simp only[CE.ok];exact⟨by decide,rfl,rfl⟩)) (by decide) (by decide)
def tnZ (e:PZ):ZP:=⟨[],[⟨false,[⟨[120],1,[],6,11⟩],⟨[102],2,[],4,17⟩,e⟩]⟩
def agb:PZ:=.mk 3 [120] [] 0 false [] 18
def agc:PZ:=.mk 12 [] [] 0 false [.mk 3 [120] [] 0 false [] 18,.mk 1 [] [] 1 false [] 20] 19
theorem aeO:((Yy .Cr).pp tn1).z=tnZ agb:=by rfl
theorem aeP:((Yy (.bin .Cr .num)).pp tn2).z=tnZ agc:=by rfl
theorem Yz:(tnZ agb).types [109]=some (34,18):=by kernel_rfl
theorem YB:(tnZ agc).types [109]=none:=by kernel_rfl
variable{b:Nat}{l:ML}{w':World}
theorem VZ {l:List Value}(h:l.length=1):∃ a,l=[a]:=List.length_eq_one_iff.1 h
theorem Ra {v0 v1:Value}(h:w.heap[b]?=some (.cells #[v0,v1] 226 (0,0))):w.cell? ⟨b,0,none⟩=some v0:=by rw[bg h];rfl
theorem Tryz.UE:∀ args w,(callFunc 216 args).run Tryz.prog w=.ok (.enter 216 args) w:=Go.Proofs.enters_of Tryz.func216 (by kernel_rfl) rfl
theorem Rb (k x:aH)(v1:Value)(w:World) :
  Calls Tryz.prog 216 (#[.agg #[.string ⟨k.toArray⟩,v1],.string ⟨x.toArray⟩]++#[]) w λe w'=>e=.returned (.int .i64 (wZ k x))/\Below w.heap.size w w':=by
 have hal:=aB w (.cells #[.string ⟨k.toArray⟩,v1] 226);have hN:=aZ w (.cells #[.string ⟨k.toArray⟩,v1] 226);have HC:=ay (λW=>Ey ⟨k.toArray⟩ ⟨x.toArray⟩ W);simp only at HC;show Calls Tryz.prog 216 #[.agg #[.string ⟨k.toArray⟩,v1],.string ⟨x.toArray⟩] w _;generalize wZ k x=c at *;go_enter Tryz.func216,Tryz.ntmps216
 go_upto_region 1 with fail
 change Code.wp _ _ _ _ (w.alloc (.cells #[.string ⟨k.toArray⟩,v1] 226));generalize w.alloc _=w1 at hal hN |-;have c0:=Ra hN;go_wp2_with (go_at_call 134;refine(HC.out _).mono ?_;rintro e w2 ⟨rfl,rfl⟩);go_ret;exact⟨rfl,hal⟩
def acP (w:World)(b off:Nat)(l:ML):Prop:=∀ i,(hi:i<l.length)->∀ j u,(bB l[i])[j]?=some u->w.cell? ⟨b,off+i * 2+j,none⟩=some u
theorem acP.below {off:Nat}(h:acP w b off l)(hb:Below w.heap.size w w'):acP w' b off l:=λi hi j u hu=>jy hb (h i hi j u hu)
theorem Rc (ao:Option Addr)(cap:Nat)(l:ML)(x:aH)(w:World)(hw:yV 1 l)(h:0<l.length->∃ b off,ao=some ⟨b,off,none⟩/\acP w b off l)(hn:l.length<=1000000) :
  Calls Tryz.prog 215 #[.slice ao l.length cap,.string ⟨x.toArray⟩,.func (.func 216) #[] #[]] w
   λe w'=>e=.returned (.tuple #[.int .i64 (aU l x:Nat),.bool (l8 l x)])/\Below w.heap.size w w':=by
 have HW:=ay hw;have HR:=ay h;have hpl:=mh l x;have HH:=ay (sQ hw x);have HI:=ay (λt (ht:t<l.length)=>wD hw (x:=x) ht);generalize hp:aU l x=p at *;have HP:=ay hp;generalize l8 l x=hs at *;have eg:=Tryz.UE;clear hw h hp;go_enter Tryz.func215,Tryz.ntmps215;go_wp2
 go_loopw [9,10] (λs9 s10 wr=>∃ lo hi:Nat,s9=.int .i64 lo/\s10=.int .i64 hi/\lo<=p/\p<=hi/\hi<=l.length/\Below w.heap.size w wr) (λs9 s10 _=>(intOf s10).toNat - (intOf s9).toNat)
 case atStart=>exact⟨0,l.length,rfl,rfl,mD _,hpl,bI _,bY _ _⟩
 case round =>
  obtain⟨lo,hi,rfl,rfl,h1,h2,h3,hb⟩:=hrel;have hz:=hb.size
  by_cases hlt:lo<hi
  ·have hmid:(lo+hi) / 2<l.length:=by omega
   obtain⟨b,off,rfl,hrw⟩:=HR.out (by omega);have hc:=(hrw.below hb) ((lo+hi) / 2) hmid;obtain⟨v1,hv⟩:=VZ (HW.out.wid _ (oQ hmid));rw[bB,hv] at hc;have x0:=hc 0 _ rfl;have x1:=hc 1 _ rfl;rw[qp] at x0;have hiff:=HI.out _ hmid;generalize l[(lo+hi) / 2].1=k at x0 hiff;have HC:=ay (λW=>Rb k x v1 W);clear hc hv hrw
   by_cases hm:(lo+hi) / 2<p
   ·have hcv:=VI (hiff.2 hm)
    rw[hcv] at HC;clear hcv hiff;go_wp2_with (go_at_fn 216;refine(HC.out _).mono ?_;rintro e w2 ⟨rfl,hb2⟩)
    go_roundw
    case rel=>exact⟨(lo+hi) / 2+1,hi,by rw[show ((lo:Int)+(hi:Int)) / 2+1=(((lo+hi) / 2+1:Nat):Int) by omega],rfl,by omega,h2,h3,hb.trans (hb2.mono hz)⟩
    case measure=>simp[intOf];omega
   ·have hcv:=VJ (λq=>hm (hiff.1 q))
    generalize wZ k x=c at HC hcv
    have hcI:¬ (c<0):=by omega
    clear hiff hcv;go_wp2_with (go_at_fn 216;refine(HC.out _).mono ?_;rintro e w2 ⟨rfl,hb2⟩)
    go_roundw
    case rel=>exact⟨lo,(lo+hi) / 2,rfl,by rw[show ((lo:Int)+(hi:Int)) / 2=(((lo+hi) / 2:Nat):Int) by omega],h1,by omega,by omega,hb.trans (hb2.mono hz)⟩
    case measure=>simp[intOf];omega
  ·obtain rfl:lo=hi:=by omega
   obtain rfl:lo=p:=by omega
   by_cases hn2:lo<l.length
   ·obtain⟨b,off,rfl,hrw⟩:=HR.out (by omega)
    have hc:=(hrw.below hb) lo hn2;obtain⟨v1,hv⟩:=VZ (HW.out.wid _ (oQ hn2));rw[bB,hv] at hc;have x0:=hc 0 _ rfl;have x1:=hc 1 _ rfl;rw[qp] at x0;have hiff:=HI.out _ hn2
    have hhs:hs=decide (l[lo].1=x):=by
     rw[HH.out]
     apply decide_eq_decide.2
     exact⟨λ⟨_,q⟩=>q,λq=>⟨hn2,q⟩⟩
    generalize l[lo].1=k at x0 hiff hhs;have hce:=VK (λq:k<x=>Nat.lt_irrefl _ (hiff.1 q));rw[<- hhs] at hce;have HC:=ay (λW=>Rb k x v1 W);have HE:Hid (∀ c,wZ k x=c->decide (c=0)=hs):=ay (λc q=>by rw[<- q];exact hce);generalize hcc:wZ k x=c at HC;have hc0:=HE.out c hcc;clear hc hv hrw hiff hhs hce hcc HE
    have YN:(lo:Int)<(l.length:Int):=by omega
    go_wp2_with (go_at_fn 216;refine(HC.out _).mono ?_;rintro e w2 ⟨rfl,hb2⟩);go_ret2;exact⟨by rw[<- hc0];rfl,hb.trans (hb2.mono hz)⟩
   ·have hhs:hs=false:=by
     rw[HH.out];exact fu (λ⟨q,_⟩=>hn2 q)
    subst hhs
    have YN:¬ (lo:Int)<(l.length:Int):=by omega
    go_wp2;go_ret2;exact⟨by simp,hb⟩
structure Rf (B mb:Nat) (v:Value) (l:ML) (w:World):Prop where
 wf:yV 1 l
 box:w.heap[mb]?=some (.cells #[v] 224 (0,0))
 own:w.ownsRow B 226 2 v l.length (eF l)
theorem Rf.below {B mb:Nat}(h:Rf B mb v l w)(hb:Below w.heap.size w w'):Rf B mb v l w' :=
 ⟨h.wf,(hb.block mb (bU h.box).1).trans h.box,own_below h.own hb⟩
theorem Rf.slice {B mb:Nat}{v:Value}{l:ML}{w:World}(h:Rf B mb v l w):∃ ao cap,v=.slice ao l.length cap/\(0<l.length->∃ b off,ao=some ⟨b,off,none⟩/\acP w b off l):=by
 obtain⟨ao,cap,hv,hn,hl,hc⟩:=Sl.fZ h.own;refine⟨ao,cap,hv,λh0=>?_⟩;obtain⟨b,off,e,hlt,hcell⟩:=hc h0;refine⟨b,off,e,λi hi j u hu=>?_⟩
 have hj:j<2:=by
  rcases Nat.lt_or_ge j 2 with q|q
  ·exact q
  ·rw[List.getElem?_eq_none (by rw[bB,dN,h.wf.wid _ (oQ hi)];exact q)] at hu;cases hu
 obtain⟨h',e'⟩:=qm ((Nu h.wf.wid i j hi hj).trans hu);have:=hcell (i * 2+j) h';rw[wU,this,e']
theorem mo (h:w.heap[b]?=some (.cells #[v] 224 (0,0))):w.cell? ⟨b,0,none⟩=some v/\w.frozen? ⟨b,0,none⟩=false:=⟨by rw[bg h];rfl,by simp[World.frozen?,h]⟩
theorem LH (B mb:Nat)(v:Value)(l:ML)(x:aH)(w:World)(h:Rf B mb v l w)(hn:l.length<=1000000) :
  Calls Tryz.prog 138 #[.pointer (some ⟨mb,0,none⟩),.string ⟨x.toArray⟩] w
   λe w'=>e=.returned (.tuple #[.int .i64 (aU l x:Nat),.bool (l8 l x)])/\Below w.heap.size w w':=by
 obtain⟨ao,cap,rfl,hr⟩:=h.slice;have c0:=(mo h.box).1;have HS:=ay (Rc ao cap l x w h.wf hr hn);generalize aU l x=p at *;generalize l8 l x=q at *;clear h hr;go_enter Tryz.func138,Tryz.ntmps138;go_wp2_with (go_at_call 215;refine HS.out.mono ?_;rintro e w2 ⟨rfl,hb2⟩);go_ret2;exact⟨rfl,hb2⟩
