/- Walks and plain laws: ScopeW3, ScopeW4, ScopeW5, ShowPB, ScopeW6, ShowPC, ShowPD, ShowPE, ScopeW7, ScopeW8. -/
import Derived.Test.YtknicmmigbhpcaaGreatDoorF29
set_option maxHeartbeats 16000000
set_option maxRecDepth 100000
set_option linter.unusedVariables false
set_option linter.unusedSimpArgs false
namespace Go.Proofs.YtknicmmigbhpcaaGreatDoor
open Go.RowKit Go
def abl:Option (List Value)→Option Nat→Prop
 | none,none=>True
 | some vs,some n=>∃ s a c b u,vs=[s,.slice a n c,b,u]
 | _,_=>False
structure ScM (E:SE) (C:WE) (lb B:Nat) (im:Value) (w:World):Prop where
 map:∃ mv ml,DC B C.db mv ml w∧ml.length≤1000000∧∀ nm,abl (rV ml nm) (E.arity nm)
 imps:bC (fun b=>b≠lb) w im E.imps
 rise:E.imps.Pairwise (· < ·)
 few:E.imps.length≤500000
 faces:∃ ms:List (List UInt8),ms.length≤1000000∧RowK aan (fun b=>b≠lb) w C.fs ms
 ext:E.ext=fun _ _=>none
theorem Zj {P:Nat→Prop}{B e sz n:Nat}{w w':World}{v:Value}{xs:List Value}(h:w.ownsRow B e sz v n xs)(ha:aQ P w w')(hP:∀ b,some b=v.ownBlock→P b):w'.ownsRow B e sz v n xs:=by
 obtain⟨hl,h⟩:=h;refine⟨hl,?_⟩
 rcases h with h|⟨g,cap,cur,rfl,hg,hh,hn⟩
 ·exact .inl h
 ·exact .inr ⟨g,cap,cur,rfl,hg,(ha.2 g (hP g rfl) (bG hh).1).trans hh,hn⟩
theorem DC.alk {P:Nat→Prop}{B mb:Nat}{v:Value}{l:ML}{w w':World}(h:DC B mb v l w)(ha:aQ P w w')(hm:P mb)(hP:∀ b,some b=v.ownBlock→P b):DC B mb v l w' :=
 ⟨h.wf,(ha.2 mb hm (bG h.box).1).trans h.box,Zj h.own ha hP⟩
theorem ScM.keep {E:SE}{C:WE}{lb B:Nat}{im:Value}{f:Fl}{w w':World}(h:ScM E C lb B im w)(hl:qK C lb im f w)(ha:aQ (fun b=>b≠lb) w w'):ScM E C lb B im w':=by
 obtain⟨⟨mv,ml,h1,h2,h3⟩,h4,h5,h6,⟨ms,h7,h8⟩,h9⟩:=h;refine⟨⟨mv,ml,h1.alk ha (fun q=>?_) (fun b hb q=>?_),h2,h3⟩,h4.frame ha,h5,h6,⟨ms,h7,h8.frame ha⟩,h9⟩
 ·have h0:=h1.box
  rw[q,hl] at h0;simp only[Option.some.injEq,Obj.cells.injEq] at h0;exact absurd h0.2.1 (by decide)
 ·subst q
  exact own_ne h1.own hl (by decide) hb
theorem WG {l:ML}{x:List UInt8}{k:Nat}(hw:Iu k l){ar:Option Nat}(h:abl (rV l x) ar):∃ (s b u:Value) (a:Option Addr) (n c:Nat) (fd:Bool),(∀ W e w',EC l x W e w'→e=.returned (.tuple #[.agg #[s,.slice a n c,b,u],.bool fd])∧Below W.heap.size W w')∧(s.oneCell'=true∧b.oneCell'=true∧u.oneCell'=true)∧∀ kn at_,CV ar kn at_=if fd=true then (if n=kn then none else some (32,at_)) else some (31,at_):=by
 cases hg:rV l x with
 | none =>
  rw[hg] at h
  cases ar with
  | some n=>exact h.elim
  | none =>
   refine⟨.string ⟨#[]⟩,.int .i64 0,.slice none 0 0,none,0,0,false,fun W e w' q=>?_,⟨rfl,rfl,rfl⟩,fun kn at_=>rfl⟩;unfold EC at q;rw[hg] at q;exact q
 | some vs =>
  rw[hg] at h
  cases ar with
  | none=>exact h.elim
  | some n =>
   obtain⟨s,a,c,b,u,rfl⟩:=h
   have hone:∀ y∈[s,Value.slice a n c,b,u],y.oneCell'=true:=by
    unfold rV at hg;obtain⟨p,hp,hq⟩:=Option.map_eq_some_iff.1 hg;rw[← hq];exact hw.one p (List.mem_of_find?_eq_some hp)
   refine⟨s,b,u,a,n,c,true,fun W e w' q=>?_,⟨hone s (by simp),hone b (by simp),hone u (by simp)⟩,fun kn at_=>rfl⟩;unfold EC at q;rw[hg] at q;exact q
theorem DJ (w:World)(b k:Nat)(v0 v1 v2 v3:Value)(h:k≠b):(jN w b v0 v1 v2 v3).heap[k]?=w.heap[k]? :=
 (heap_setCell_other _ _ _ _ h).trans ((heap_setCell_other _ _ _ _ h).trans ((heap_setCell_other _ _ _ _ h).trans (heap_setCell_other _ _ _ _ h)))
theorem oF (w:World)(b c i:Nat)(v0 v1 v2 v3:Value)(h:c≠b):((((w.setCell ⟨b,0,none⟩ v0).setCell ⟨b,1,none⟩ v1).setCell ⟨b,2,none⟩ v2).setCell ⟨b,3,none⟩ v3).cell? ⟨c,i,none⟩=w.cell? ⟨c,i,none⟩ :=
 World.cell?_of_block (a:=⟨c,i,none⟩) ((heap_setCell_other _ _ _ _ h).trans ((heap_setCell_other _ _ _ _ h).trans ((heap_setCell_other _ _ _ _ h).trans (heap_setCell_other _ _ _ _ h))))
theorem Sm (E:SE)(C:WE)(lb B:Nat)(im:Value)(f:Fl)(op:Int)(nm md:List UInt8)(ng ys:Bool)(mv:Value)(ae:Option Addr)(n ce:Nat)(a_:Int)(w:World)(hL:qK C lb im f w)(hM:ScM E C lb B im w)(hf:nH f) :
  Calls Tryz.prog 142 #[.pointer (some ⟨lb,0,none⟩),.agg (aU op ⟨nm.toArray⟩ ⟨md.toArray⟩ ng mv ys (.slice ae n ce) a_)] w (IC C lb im (rY f (FZ E nm md n a_)) w):=by
 have hal:=aj w (.cells (aU op ⟨nm.toArray⟩ ⟨md.toArray⟩ ng mv ys (.slice ae n ce) a_) 46);have hN:=heap_alloc_new w (.cells (aU op ⟨nm.toArray⟩ ⟨md.toArray⟩ ng mv ys (.slice ae n ce) a_) 46);have hL1:=hL.below hal;have hM1:=hM.keep hL (aQ.of hal);have hk1:=gW.of hal hL.lt;obtain⟨⟨mv',ml,hm1,hm2,hm3⟩,hi1,hi2,hi3,⟨ms,hs1,hs2⟩,hx⟩:=hM1;obtain⟨s,b,u,a,np,c,fd,hget,⟨o1,o2,o3⟩,har⟩:=WG hm1.wf (hm3 nm);have HG:=ah (fun W (hW:Below (w.alloc (.cells (aU op ⟨nm.toArray⟩ ⟨md.toArray⟩ ng mv ys (.slice ae n ce) a_) 46)).heap.size (w.alloc (.cells (aU op ⟨nm.toArray⟩ ⟨md.toArray⟩ ng mv ys (.slice ae n ce) a_) 46)) W)=>(WA B C.db mv' ml nm W (hm1.below hW) hm2).mono fun e w' q=>hget W e w' q);obtain⟨ai,ci,rfl,-,-⟩:=hi1.slice;have HH:=ah (fun W (hW:Below (w.alloc (.cells (aU op ⟨nm.toArray⟩ ⟨md.toArray⟩ ng mv ys (.slice ae n ce) a_) 46)).heap.size (w.alloc (.cells (aU op ⟨nm.toArray⟩ ⟨md.toArray⟩ ng mv ys (.slice ae n ce) a_) 46)) W)=>xZ _ ai ci E.imps ⟨md.toArray⟩ W (hi1.below hW) hi2 (by omega));obtain⟨af,cf,hfs⟩:=hs2.slice;have HF:=ah (fun W (hW:Below (w.alloc (.cells (aU op ⟨nm.toArray⟩ ⟨md.toArray⟩ ng mv ys (.slice ae n ce) a_) 46)).heap.size (w.alloc (.cells (aU op ⟨nm.toArray⟩ ⟨md.toArray⟩ ng mv ys (.slice ae n ce) a_) 46)) W)=>Sk _ af cf ms md nm W (by rw[← hfs];exact hs2.frame (aQ.of hW)) hs1);have HFS:=ah hfs
 have hcf:∀ q,FZ E nm md n q=if md=[] then (if fd=true then (if np=n then none else some (32,q)) else some (31,q)) else if md∈E.imps then some (31,q) else some (33,q):=fun q=>by
  unfold FZ;rw[har,hx]
  rfl
 rw[hcf]
 obtain⟨R,hR⟩:∃ R,R=rY f (if md=[] then (if fd=true then (if np=n then none else some (32,a_)) else some (31,a_)) else if md∈E.imps then some (31,a_) else some (33,a_)):=⟨_,rfl⟩
 rw[← hR];have XP:=ah (fun W (hW:qK C lb (.slice ai E.imps.length ci) f W) (e:Int)=>Gh C lb (.slice ai E.imps.length ci) f e a_ W hW hf);have hbb:=hL.lt;clear hcf har hx hget hm1 hm2 hm3 hi1 hi2 hi3 hs1 hs2 hM hL hfs hf;generalize E.imps=L at *;have HR:=ah hR;clear hR;simp only at HH;go_enter Tryz.func142,Tryz.ntmps142
 go_upto_region 1 with fail
 change Code.wp _ _ _ _ (w.alloc (.cells (aU op ⟨nm.toArray⟩ ⟨md.toArray⟩ ng mv ys (.slice ae n ce) a_) 46))
 have hz:w.heap.size<(w.alloc (.cells (aU op ⟨nm.toArray⟩ ⟨md.toArray⟩ ng mv ys (.slice ae n ce) a_) 46)).heap.size:=by simp
 generalize w.alloc _=w1 at *;obtain⟨⟨k0,k1',k2,k3,k4,k5,k6,k7⟩,kz⟩:=hL1.cells;obtain⟨y0,y1,y2,y3,y4,y5,y6,y7⟩:=aG hN
 have s1:=fun a m W=>run_store Tryz.prog W a s m o1
 have s2:=fun a m W=>run_store Tryz.prog W a b m o2
 have s3:=fun a m W=>run_store Tryz.prog W a u m o3
 have hn1:lb≠w1.heap.size:=by omega
 have hn2:w.heap.size≠w1.heap.size:=by omega
 have HL1:=ah hL1;have HN:=ah hN;clear hL1 hN kz
 go_cut [4,5] (fun p q wc=>∃ Y:Nat,p=.pointer (some ⟨Y,0,none⟩)∧q=.bool fd∧wc.heap[Y]?=some (.cells #[s,.slice a np c,b,u] 31 (0,0))∧w1.heap.size≤Y∧Below w1.heap.size w1 wc)
 case first =>
  go_region_held3 (fun W=>W.cell? ⟨lb,5,none⟩=some (.pointer (some ⟨C.db,0,none⟩))∧W.cell? ⟨w.heap.size,1,none⟩=some (.string ⟨nm.toArray⟩))
   (first|(with_reducible exact p3)|(with_reducible exact And.intro ((oF w2 w1.heap.size lb 5 _ _ _ _ hn1).trans p3.1) ((oF w2 w1.heap.size w.heap.size 1 _ _ _ _ hn2).trans p3.2))|(go_keep;done))
   (first|(go_at_call 55;refine(HG.out _ ?_).mono ?_;(first|exact(Below.refl _ _).drew|exact((Below.refl _ _).alloc (Nat.le_refl _) _).drew);rintro e w2 ⟨rfl,hb2⟩;have hq2:Below w1.heap.size w1 w2:=(by first|exact(Below.refl _ _).drew.trans hb2|exact((Below.refl _ _).alloc (Nat.le_refl _) _).drew.trans (hb2.mono (by simp)));have p3:=And.intro (cell_later hq2 k5) (cell_later hq2 y1);try (have hT:=(hb2.block w1.heap.size (by simp)).trans (heap_alloc_new w1 (.cells #[.string ⟨#[]⟩,.slice none 0 0,.int .i64 0,.slice none 0 0] 31));obtain⟨⟨t0,t1,t2,t3⟩,g0,g1,g2,g3⟩:=fA hT)))
  ·clear s1 s2 s3
   go_wp2_with fail
   go_meet
   exact⟨w2.heap.size,rfl,rfl,heap_alloc_new w2 _,hq2.size,hq2.alloc hq2.size _⟩
  ·clear s1 s2 s3
   go_wp2_with fail
   go_meet
   exact⟨w1.heap.size,rfl,rfl,fI hT s (.slice a np c) b u,Nat.le_refl _,eF hq2 (Nat.le_refl _) s (.slice a np c) b u⟩
 case rest =>
  obtain⟨Y,rfl,rfl,hY,hYw,hqc⟩:=hcut
  obtain⟨w2,rfl⟩:∃ w2:World,w2=wc:=⟨_,rfl⟩
  clear k0 k1' k2 k3 k4 k5 k6 k7 y0 y1 y2 y3 y4 y5 y6 y7;have hL2:=HL1.out.below hqc;have LV:=(hqc.block _ hz).trans HN.out;have hzc:=hqc.size;have hk2:=hk1.trans (gW.of hqc (by omega));obtain⟨⟨k0,k1',k2,k3,k4,k5,k6,k7⟩,kz⟩:=hL2.cells;obtain⟨y0,y1,y2,y3,y4,y5,y6,y7⟩:=aG LV;obtain⟨⟨c0,c1,c2,c3⟩,f0,f1,f2,f3⟩:=fA hY;have HL2:=ah hL2;have HY:=ah hY;have hYl:=(bG hY).1;have HNN:=ah LV;clear hL2 LV hY kz HN
  go_upto_if 18 with fail
  cases hmd:md.isEmpty with
  | true =>
   have HR1:Hid (R=rY f (if fd=true then (if np=n then none else some (32,a_)) else some (31,a_))):=ah (by rw[HR.out,if_pos (List.isEmpty_iff.1 hmd)]);clear hmd s1 s2 s3
   cases fd with
   | false =>
    have HFx:=ah (XP.out w2 HL2.out 31);go_wp2_with (go_at_call 56;refine HFx.out.mono ?_;rintro e w3 ⟨rfl,hl3,hk3⟩)
    go_end0
    exact⟨rfl,by rw[HR1.out];exact hl3,hk2.trans hk3⟩
   | true =>
    by_cases hnp:np=n
    ·subst hnp
     go_wp2
     go_end0
     exact⟨rfl,by have q:=HL2.out;rw[HR1.out];simpa [xQ] using q,hk2⟩
    ·have HR2:Hid (R=rY f (some (32,a_))):=ah (by rw[HR1.out,if_pos rfl,if_neg hnp])
     have HFx:=ah (XP.out w2 HL2.out 32);go_wp2_with (go_at_call 56;refine HFx.out.mono ?_;rintro e w3 ⟨rfl,hl3,hk3⟩)
     go_end0
     exact⟨rfl,by rw[HR2.out];exact hl3,hk2.trans hk3⟩
  | false =>
   have hm0:md≠[]:=fun q=>by rw[q] at hmd;cases hmd
   have HHx:=ah (fun W (hW:Below w2.heap.size w2 W)=>HH.out W (hqc.trans (hW.mono hzc)));have HFx:=ah (fun W (hW:Below w2.heap.size w2 W)=>HF.out W (hqc.trans (hW.mono hzc)))
   obtain⟨bb,abm⟩:∃ bb,decide (md∈L)=bb:=⟨_,rfl⟩
   rw[abm] at HHx
   have HR1:Hid (R=rY f (if bb=true then some (31,a_) else some (33,a_))):=ah (by
    rw[HR.out,if_neg hm0,← abm]
    by_cases q:md∈L
    ·rw[if_pos q,if_pos (decide_eq_true q)]
    ·rw[if_neg q,if_neg (by simpa using q)])
   have HN2:=ah (show w2.heap[w.heap.size]?=some (.cells (aU op ⟨nm.toArray⟩ ⟨md.toArray⟩ ng mv ys (.slice ae n ce) a_) 46 (0,0)) from HNN.out);clear abm hm0 s1 s2 s3 HR HH HF
   go_upto_region 3 with fail
   go_cut [26] (fun v wc=>v=.bool (!bb)∧Below w2.heap.size w2 wc)
   case first =>
    go_region_with (go_at_call 60;refine(HHx.out _ (Below.refl _ _).drew).mono ?_;rintro e w3 ⟨rfl,hb3⟩)
    all_goals
     go_wp2_with fail
     go_meet
     exact⟨rfl,(Below.refl _ _).drew.trans hb3⟩
   case rest =>
    obtain⟨rfl,hq3⟩:=hcut
    obtain⟨w3,rfl⟩:∃ w3:World,w3=wc:=⟨_,rfl⟩
    clear k0 k1' k2 k3 k4 k5 k6 k7 y0 y1 y2 y3 y4 y5 y6 y7 c0 c1 c2 c3 f0 f1 f2 f3 HHx;have hL3:=HL2.out.below hq3;have KG:=(hq3.block _ (by omega)).trans HN2.out;have hY3:=(hq3.block _ hYl).trans HY.out;have hz3:=hq3.size;have hk3:=hk2.trans (gW.of hq3 (by omega));obtain⟨⟨k0,k1',k2,k3,k4,k5,k6,k7⟩,kz⟩:=hL3.cells;obtain⟨y0,y1,y2,y3,y4,y5,y6,y7⟩:=aG KG;obtain⟨⟨c0,c1,c2,c3⟩,f0,f1,f2,f3⟩:=fA hY3;have WH:=ah hL3;clear kz
    cases bb with
    | false =>
     have HFx:=ah (XP.out w3 WH.out 33);have HR2:Hid (R=rY f (some (33,a_))):=ah (by have q:=HR1.out;simpa using q);go_wp2_with (go_at_call 56;refine HFx.out.mono ?_;rintro e w4 ⟨rfl,hl4,hk4⟩)
     go_end0
     exact⟨rfl,by rw[HR2.out];exact hl4,hk3.trans hk4⟩
    | true =>
     have HR2:Hid (R=rY f (some (31,a_))):=ah (by have q:=HR1.out;simpa using q);rw[HFS.out] at k3;have HN3:=ah KG;have HY3:=ah hY3;clear HR1 KG hY3;have Ar:=hal.trans ((hqc.trans (hq3.mono hzc)).mono hal.size);have aed:w.heap.size≤Y:=Nat.le_trans hal.size hYw
     have abn:Y<w3.heap.size:=by omega
     go_upto_region 5 with fail
     go_cut [5] (fun v wc=>v=.bool false∧qK C lb (.slice ai L.length ci) f wc∧wc.heap[w.heap.size]?=some (.cells (aU op ⟨nm.toArray⟩ ⟨md.toArray⟩ ng mv ys (.slice ae n ce) a_) 46 (0,0))∧Below w.heap.size w wc)
     case first =>
      go_region_with (go_at_call 11;refine(HFx.out _ hq3.drew).mono ?_;rintro e w4 ⟨rfl,hb4⟩;have hY4:=(hb4.block Y abn).trans HY3.out;obtain⟨⟨d0,d1,d2,d3⟩,g0,g1,g2,g3⟩:=fA hY4)
      all_goals
       have zC:Below w3.heap.size w3 w4:=(Below.refl _ _).drew.trans hb4
       have HE:Hid (qK C lb (.slice ai L.length ci) f (jN w4 Y (.string ⟨#[]⟩) (.slice none 0 0) (.int .i64 0) (.slice none 0 0))∧(jN w4 Y (.string ⟨#[]⟩) (.slice none 0 0) (.int .i64 0) (.slice none 0 0)).heap[w.heap.size]?=some (.cells (aU op ⟨nm.toArray⟩ ⟨md.toArray⟩ ng mv ys (.slice ae n ce) a_) 46 (0,0))∧Below w.heap.size w (jN w4 Y (.string ⟨#[]⟩) (.slice none 0 0) (.int .i64 0) (.slice none 0 0))) :=
        ah ⟨(DJ w4 Y lb _ _ _ _ (by omega)).trans (WH.out.below zC),(DJ w4 Y w.heap.size _ _ _ _ (by omega)).trans ((zC.block _ (by omega)).trans HN3.out),eF (Ar.trans (zC.mono Ar.size)) aed _ _ _ _⟩
       clear d0 d1 d2 d3 g0 g1 g2 g3 hY4 k0 k1' k2 k3 k4 k5 k6 k7 y0 y1 y2 y3 y4 y5 y6 y7 c0 c1 c2 c3 f0 f1 f2 f3 hb4 zC;go_wp2_with fail
       go_meet
       exact⟨rfl,HE.out.1,HE.out.2.1,HE.out.2.2⟩
     case rest =>
      obtain⟨rfl,hl4,Vb,hb4⟩:=hcut
      obtain⟨w4,rfl⟩:∃ w4:World,w4=wc:=⟨_,rfl⟩
      clear k0 k1' k2 k3 k4 k5 k6 k7 y0 y1 y2 y3 y4 y5 y6 y7 c0 c1 c2 c3 f0 f1 f2 f3;obtain⟨y0,y1,y2,y3,y4,y5,y6,y7⟩:=aG Vb;have HFy:=ah (XP.out w4 hl4 31);clear Vb hl4;go_wp2_with (go_at_call 56;refine HFy.out.mono ?_;rintro e w5 ⟨rfl,hl5,hk5⟩)
      go_end0
      exact⟨rfl,by rw[HR2.out];exact hl5,(gW.of hb4 hbb).trans hk5⟩
def IE (x:PZ):Prop:=∀ (E:SE) (C:WE) (lb B:Nat) (im:Value) (f:Fl) (am:Option Addr) (wn cm:Nat) (ae:Option Addr) (ce:Nat) (ab:Option Addr) (cb:Nat) (bd:List (List UInt8)) (res:Bool) (w:World),qK C lb im f w→ScM E C lb B im w→nH f →
 oI YA (fun b=>b≠lb) w (.slice am wn cm) (.slice ae x.kids.length ce) x→bC (fun b=>b≠lb) w (.slice ab bd.length cb) bd→bd.Pairwise (· < ·)→bd.length+x.size≤500000 →
 Calls Tryz.prog 86 #[.pointer (some ⟨lb,0,none⟩),.agg (aU x.op ⟨x.name.toArray⟩ ⟨x.module.toArray⟩ (decide (x.num<0)) (.slice am wn cm) x.yes (.slice ae x.kids.length ce) x.at_),.agg #[.slice ab bd.length cb],.bool res] w (IC C lb im (rY f (x.kZ E bd res)) w)
theorem PS (w:World)(x:List UInt8):bC (fun _=>True) (w.alloc (.cells #[.string ⟨x.toArray⟩] 9)) (.slice (some ⟨w.heap.size,0,none⟩) 1 1) [x]:=by
 refine⟨⟨_,1,rfl,Nat.le_refl _,rfl,fun _=>⟨w.heap.size,0,rfl,trivial,by simp,fun i hi=>?_⟩⟩,fun n c q=>by cases q⟩
 obtain rfl:i=0:=by simpa using hi
 rw[Lib.cell_of_heap (heap_alloc_new w _)]
 rfl
theorem PZ.tq (e:PZ):e.size=rM e.kids+1:=by cases e;rw[PZ.size];rfl
theorem Lf:∀ {l:List PZ} {k:Nat} (h:k<l.length),l[k].size≤rM l
 | [],_,h=>absurd h (by simp)
 | e :: l,0,_=>by rw[rM];exact Nat.le_add_right _ _
 | e :: l,k+1,h=>by
  rw[rM];have:=Lf (l:=l) (k:=k) (by simpa using h);simp only[List.getElem_cons_succ];omega
theorem DL:∀ l:List PZ,l.length≤rM l
 | []=>Nat.le_refl _
 | e :: l=>by
  have h1:=DL l;have h2:=e.tq;rw[dX,rM];omega
theorem yh (E:SE):∀ (op:Int) (nm md:List UInt8) (n:Nat) (a:Int) (bd:List (List UInt8)) (res:Bool),nH (tK E bd res op nm md n a):=fun op nm md n a bd res=>by
 have hA:∀ o,nH (CV o n a):=fun o=>by
  unfold CV
  split
  ·exact nH.some (by decide)
  ·split
   ·exact nH.none
   ·exact nH.some (by decide)
 unfold tK
 split
 ·exact nH.some (by decide)
 ·split
  ·unfold FZ
   split
   ·exact hA _
   ·split
    ·exact hA _
    ·exact nH.some (by decide)
  ·exact nH.none
mutual
theorem PZ.yh (E:SE)(bd:List (List UInt8))(res:Bool):∀ e:PZ,nH (e.kZ E bd res)
 | .mk op nm md _ _ kids a=>by rw[PZ.kZ];exact(Go.Proofs.YtknicmmigbhpcaaGreatDoor.yh E op nm md kids.length a bd res).or (zD E op nm bd res kids 0)
theorem zD (E:SE)(op:Int)(nm:List UInt8)(bd:List (List UInt8))(res:Bool):∀ (l:List PZ) (i:Nat),nH (fM E op nm bd res i l)
 | [],i=>by rw[fM];exact nH.none
 | e :: l,i=>by rw[fM];exact(PZ.yh E _ res e).or (zD E op nm bd res l (i+1))
end
theorem Ol (x:PZ)(IHx:∀ k∈x.kids,IE k):IE x:=by
 intro E C lb B im f am wn cm ae ce ab cb bd res w hL hM hf hZ hT hr hn;have hal:=(aj w (.cells (aU x.op ⟨x.name.toArray⟩ ⟨x.module.toArray⟩ (decide (x.num<0)) (.slice am wn cm) x.yes (.slice ae x.kids.length ce) x.at_) 46)).alloc (by simp) (.cells #[.slice ab bd.length cb] 114);have g0:=(Lib.alloc_old (w.alloc (.cells (aU x.op ⟨x.name.toArray⟩ ⟨x.module.toArray⟩ (decide (x.num<0)) (.slice am wn cm) x.yes (.slice ae x.kids.length ce) x.at_) 46)) (.cells #[.slice ab bd.length cb] 114) w.heap.size (by simp)).trans (heap_alloc_new w (.cells (aU x.op ⟨x.name.toArray⟩ ⟨x.module.toArray⟩ (decide (x.num<0)) (.slice am wn cm) x.yes (.slice ae x.kids.length ce) x.at_) 46));have g1:=heap_alloc_new (w.alloc (.cells (aU x.op ⟨x.name.toArray⟩ ⟨x.module.toArray⟩ (decide (x.num<0)) (.slice am wn cm) x.yes (.slice ae x.kids.length ce) x.at_) 46)) (.cells #[.slice ab bd.length cb] 114);rw[World.size_alloc] at g1;have hhd:=yh E x.op x.name x.module x.kids.length x.at_ bd res;have hdef:=x.NK E bd res;have hks:=x.tq;have hkl:=DL x.kids
 have hcap:=fun i (hi:i<x.kids.length)=>Lf hi
 obtain⟨_,ae',ce',hv,_,hform⟩:=hZ.form;simp only[Value.slice.injEq] at hv;obtain⟨rfl,-,rfl⟩:=hv;have hlw:=hL.lt;have hL1:=hL.below hal;have hM1:=hM.keep hL (aQ.of hal);have hT1:=hT.below hal;have HF:=ah hform;have HSZ:=ah hcap;have IH:=ah IHx;have Zk:=ah hdef;have HR:=ah hr;have HFO:=ah hf;rw[hks] at hn;clear hL hM hT hZ hr hf hform hcap IHx hdef hks
 obtain⟨R,hR⟩:∃ R,R=x.kZ E bd res:=⟨_,rfl⟩
 rw[← hR] at Zk ⊢;clear hR;generalize hop:x.op=op at *;generalize hnm:x.name=nm at *;generalize hmd:x.module=md at *;generalize hat:x.at_=a_ at *;generalize hkk:x.kids=ks at *;clear hop hnm hmd hat hkk;generalize decide (x.num<0)=ng at *;generalize x.yes=ys at *;have HX:=ah (fun W (hW:Below w.heap.size w W)=>hW);go_enter Tryz.func86,Tryz.ntmps86
 go_upto_block 0 with fail
 change Code.wp _ _ _ _ ((w.alloc _).alloc (.cells #[.slice ab bd.length cb] 114));generalize (w.alloc _).alloc (.cells #[.slice ab bd.length cb] 114)=w1 at *;have hz1:=hal.size;have hl1:=(bG g1).1;have hk1:=gW.of hal hlw;obtain⟨y0,y1,y2,y3,y4,y5,y6,y7⟩:=aG g0;obtain⟨r0,rz⟩:=aH g1;have HL1:=ah hL1;have Zl:=ah hM1;have HT1:=ah hT1;have HG:=ah (And.intro g0 g1);clear hL1 hM1 hT1 g0 g1 HX
 obtain⟨A,hA⟩:∃ A,A=(decide (op=3) && !decide (nm∈bd)):=⟨_,rfl⟩
 obtain⟨T,hTT⟩:∃ T,T=decide ((op=3∧nm ∉ bd)∨(op=4∧res=false)):=⟨_,rfl⟩
 have HA:=ah hA;have LU:=ah hTT;clear hA hTT
 obtain⟨f1,hf1⟩:∃ f1,f1=rY f (tK E bd res op nm md ks.length a_):=⟨_,rfl⟩
 have Sn:=ah hf1
 have ac0:nH f1:=by rw[hf1];exact HFO.out.or hhd
 have aee:=ah ac0;clear hf1 ac0 hhd
 have afx:lb<w1.heap.size:=by omega
 go_cut [] (fun wc=>qK C lb im f1 wc∧gW lb w1 wc)
 case first =>
  go_upto_region 1 with fail
  go_cut [10] (fun v wc=>v=.bool A∧Below w1.heap.size w1 wc)
  case first =>
   have HH:=ah (xZ _ ab cb bd ⟨nm.toArray⟩ w1 HT1.out HR.out (by omega));simp only at HH
   obtain⟨m,hm⟩:∃ m,m=decide (nm∈bd):=⟨_,rfl⟩
   rw[← hm] at HH HA;clear hm
   by_cases h3:op=3
   ·have h3I:((op:Int) == 3)=true:=by simp[h3]
    have HA1:Hid (A=!m):=ah (by rw[HA.out,decide_eq_true h3];rfl);clear h3 HA;go_wp2_with (go_at_call 60;refine HH.out.mono ?_;rintro e w2 ⟨rfl,hb2⟩)
    go_meet
    exact⟨by rw[HA1.out],hb2⟩
   ·have h3I:((op:Int) == 3)=false:=by simp[h3]
    have HA1:Hid (A=false):=ah (by rw[HA.out,decide_eq_false h3];rfl);clear h3 HA HH;go_wp2
    go_meet
    exact⟨by rw[HA1.out],Below.refl _ _⟩
  case rest =>
   obtain⟨rfl,hb2⟩:=hcut
   obtain⟨w2,rfl⟩:∃ w2:World,w2=wc:=⟨_,rfl⟩
   clear y0 y1 y2 y3 y4 y5 y6 y7 r0 rz;have hz2:=hb2.size;have g0:=(hb2.block _ (by omega)).trans HG.out.1;have g1:=(hb2.block _ hl1).trans HG.out.2;have HG2:=ah (And.intro g0 g1);obtain⟨y0,y1,y2,y3,y4,y5,y6,y7⟩:=aG g0;clear g0 g1
   go_upto_if 10 with fail
   go_cut [10] (fun v wc=>v=.bool T∧w2=wc)
   case first =>
    cases A with
    | true =>
     have HT1:Hid (T=true):=ah (by
      have h1:=HA.out;rw[LU.out];simp only[Bool.true_eq,Bool.and_eq_true,decide_eq_true_eq,Bool.not_eq_true',decide_eq_false_iff_not] at h1
      exact decide_eq_true (.inl h1))
     go_wp2
     go_meet
     exact⟨by rw[HT1.out],rfl⟩
    | false =>
     have HT1:Hid (T=(decide (op=4) && !res)):=ah (by
      have h1:=HA.out;rw[LU.out]
      have h2:¬ (op=3∧nm ∉ bd):=fun q=>by rw[decide_eq_true q.1,decide_eq_false q.2] at h1;cases h1
      by_cases h4:op=4
      ·cases res<;>simp[h4,h2]
      ·simp[h4,h2])
     clear LU HA
     by_cases h4:op=4
     ·have h4I:((op:Int) == 4)=true:=by simp[h4]
      have HT2:Hid (T=!res):=ah (by rw[HT1.out,decide_eq_true h4];rfl);clear h4 HT1;go_wp2
      go_meet
      exact⟨by rw[HT2.out],rfl⟩
     ·have h4I:((op:Int) == 4)=false:=by simp[h4]
      have HT2:Hid (T=false):=ah (by rw[HT1.out,decide_eq_false h4];rfl);clear h4 HT1;go_wp2
      go_meet
      exact⟨by rw[HT2.out],rfl⟩
   case rest =>
    obtain⟨rfl,rfl⟩:=hcut;have hL2:=HL1.out.below hb2;have hM2:=Zl.out.keep HL1.out (aQ.of hb2);have HL2:=ah hL2;have Tn:=ah hM2;clear hL2 hM2
    go_upto_if 10 with fail
    cases T with
    | true =>
     have HE:Hid (f1=rY f (some (31,a_))):=ah (by
      rw[Sn.out,tK,if_pos (of_decide_eq_true LU.out.symm)])
     have XP:=ah (Gh C lb im f 31 a_ w2 HL2.out HFO.out);clear LU HA Sn;go_wp2_with (go_at_call 56;refine XP.out.mono ?_;rintro e w3 ⟨rfl,hl3,hk3⟩)
     go_meet
     exact⟨by rw[HE.out];exact hl3,(gW.of hb2 (by omega)).trans hk3⟩
    | false =>
     have hnT:=of_decide_eq_false LU.out.symm
     by_cases XG:op=24
     ·have HE:Hid (f1=rY f (FZ E nm md ks.length a_)):=ah (by
       rw[Sn.out,tK,if_neg hnT,if_pos XG])
      subst XG;have HCA:Hid (Calls _ _ _ w2 _):=ah (Sm E C lb B im f 24 nm md ng ys (.slice am wn cm) ae ks.length ce a_ w2 HL2.out Tn.out HFO.out);unfold aU at HCA;clear LU HA Sn hnT;go_wp2_with (go_at_call 142;refine HCA.out.mono ?_;rintro e w3 ⟨rfl,hl3,hk3⟩)
      go_meet
      exact⟨by rw[HE.out];exact hl3,(gW.of hb2 (by omega)).trans hk3⟩
     ·have afy:((op:Int) == 24)=false:=by simp[XG]
      have HE:Hid (f1=f):=ah (by
       rw[Sn.out,tK,if_neg hnT,if_neg XG,xQ])
      clear LU HA Sn hnT XG;go_wp2
      go_meet
      exact⟨by rw[HE.out];exact HL2.out,gW.of hb2 (by omega)⟩
 case rest =>
  obtain⟨hl2,hk2⟩:=hcut
  obtain⟨w2,rfl⟩:∃ w2:World,w2=wc:=⟨_,rfl⟩
  clear y0 y1 y2 y3 y4 y5 y6 y7 r0 rz HA LU A T;have hz2:=hk2.2.1;have hM2:=Zl.out.keep HL1.out hk2.2;have O1:=HT1.out.frame hk2.2;have g0:=(hk2.2.2 w.heap.size (by omega) (by omega)).trans HG.out.1;have g1:=(hk2.2.2 (w.heap.size+1) (by omega) hl1).trans HG.out.2;have aef:aQ (fun b=>b≠lb) w w2:=hk1.2.trans hk2.2;have aeg:=hk1.trans hk2;obtain⟨y0,y1,y2,y3,y4,y5,y6,y7⟩:=aG g0;have Tn:=ah hM2;have HT2:=ah O1;have HG2:=ah (And.intro g0 g1);have HL2:=ah hl2
  have afz:w.heap.size+1<w2.heap.size:=by omega
  clear hM2 O1 g0 g1 hl2 Zl HT1 HL1 HG hk1;go_wp2
  go_loopw [8,9,42] (fun _ _ q wr=>∃ k:Nat,k≤ks.length∧q=.int .i64 k∧qK C lb im (rY f1 (fM E op nm bd res 0 (ks.take k))) wr∧gW lb w2 wr) (fun _ _ q _=>ks.length - (intOf q).toNat)
  case atStart=>exact⟨0,Nat.zero_le _,rfl,by rw[List.take_zero,fM,xQ];exact HL2.out,gW.refl _ _⟩
  case round =>
   obtain⟨k,hk,rfl,hlr,hkr⟩:=hrel;clear y0 y1 y2 y3 y4 y5 y6 y7;have uU:=hkr.2.1;have HLR:=ah hlr;clear hlr
   by_cases hlt:k<ks.length
   ·obtain⟨b,off,rfl,hPb,hbw,qy⟩:=HF.out (by omega)
    obtain⟨m,kv,hE,hc⟩:=qy k hlt;have har:aQ (fun b=>b≠lb) w wr:=aef.trans hkr.2;obtain⟨Vu,Vv,Vw,Zm,Zn,rfl,rfl⟩:=hE.slX;have hE':=hE.frame har
    have hcr:∀ (j:Nat) (u:Value),w.cell? ⟨b,off+k * 8+j,none⟩=some u→wr.cell? ⟨b,off+k * 8+j,none⟩=some u:=fun j u h=>(World.cell?_of_block (a:=⟨b,off+k * 8+j,none⟩) (har.2 b hPb hbw)).trans h
    have x0:=hcr 0 _ (hc 0 _ rfl);have x1:=hcr 1 _ (hc 1 _ rfl);have x2:=hcr 2 _ (hc 2 _ rfl);have x3:=hcr 3 _ (hc 3 _ rfl);have x4:=hcr 4 _ (hc 4 _ rfl);have x5:=hcr 5 _ (hc 5 _ rfl);have x6:=hcr 6 _ (hc 6 _ rfl);have x7:=hcr 7 _ (hc 7 _ rfl);rw[Nat.add_zero] at x0;simp only[bY] at x1 x2;have hIH:=IH.out _ (List.getElem_mem hlt);have hsz:=HSZ.out k hlt;have hsn:=Ih E op nm bd res hlt;have pQ:=ah hsn;have HE:=ah hE';have HIH:=ah hIH;clear qy hE hE' hc hcr hIH hsn;generalize ks[k]=x at *
    obtain⟨fk,hfk⟩:∃ fk,fk=rY f1 (fM E op nm bd res 0 (ks.take k)):=⟨_,rfl⟩
    have ac1:nH fk:=by rw[hfk];exact aee.out.or (zD E op nm bd res _ _)
    have YI:Hid (rY f1 (fM E op nm bd res 0 (ks.take (k+1)))=rY fk (x.kZ E (KI op nm bd k) res)):=ah (by rw[pQ.out,hfk,zn]);rw[← hfk] at HLR;have hMr:=Tn.out.keep HL2.out hkr.2
    have HK:Hid (∀ (W:World) (ab':Option Addr) (cb':Nat) (bd':List (List UInt8)),qK C lb im fk W→aQ (fun b=>b≠lb) wr W→bC (fun b=>b≠lb) W (.slice ab' bd'.length cb') bd'→bd'.Pairwise (· < ·)→bd'.length+x.size≤500000→Calls Tryz.prog 86 #[.pointer (some ⟨lb,0,none⟩),.agg #[.int .i64 x.op,.string ⟨x.name.toArray⟩,.string ⟨x.module.toArray⟩,.bool (decide (x.num<0)),.slice Vu Vv Vw,.bool x.yes,.slice Zm x.kids.length Zn,.int .i64 x.at_],.agg #[.slice ab' bd'.length cb'],.bool res] W (IC C lb im (rY fk (x.kZ E bd' res)) W)) :=
     ah fun W ab' cb' bd' h1 h2 h3 h4 h5=>HIH.out E C lb B im fk Vu Vv Vw Zm Zn ab' cb' bd' res W h1 (hMr.keep HLR.out h2) ac1 (HE.out.frame h2) h3 h4 h5
    have hTr:=HT2.out.frame hkr.2;have gr0:=(hkr.2.2 w.heap.size (by omega) (by omega)).trans HG2.out.1;have gr1:=(hkr.2.2 (w.heap.size+1) (by omega) (by omega)).trans HG2.out.2;have kW:=aj wr (.cells (aU x.op ⟨x.name.toArray⟩ ⟨x.module.toArray⟩ (decide (x.num<0)) (.slice Vu Vv Vw) x.yes (.slice Zm x.kids.length Zn) x.at_) 46);have gk:=heap_alloc_new wr (.cells (aU x.op ⟨x.name.toArray⟩ ⟨x.module.toArray⟩ (decide (x.num<0)) (.slice Vu Vv Vw) x.yes (.slice Zm x.kids.length Zn) x.at_) 46)
    have nJ:(k:Int)<(ks.length:Int):=by omega
    have HTr:=ah hTr;have WI:=ah (And.intro gr0 gr1);have aeh:lb<wr.heap.size:=HLR.out.lt;clear hfk ac1 pQ HE HIH hMr hTr gr0 gr1 har
    go_upto_region 9 with fail
    change Code.wp _ _ _ _ (wr.alloc (.cells (aU x.op ⟨x.name.toArray⟩ ⟨x.module.toArray⟩ (decide (x.num<0)) (.slice Vu Vv Vw) x.yes (.slice Zm x.kids.length Zn) x.at_) 46));clear x0 x1 x2 x3 x4 x5 x6 x7
    have aei:wr.heap.size<(wr.alloc (.cells (aU x.op ⟨x.name.toArray⟩ ⟨x.module.toArray⟩ (decide (x.num<0)) (.slice Vu Vv Vw) x.yes (.slice Zm x.kids.length Zn) x.at_) 46)).heap.size:=by simp
    generalize wr.alloc (.cells (aU x.op ⟨x.name.toArray⟩ ⟨x.module.toArray⟩ (decide (x.num<0)) (.slice Vu Vv Vw) x.yes (.slice Zm x.kids.length Zn) x.at_) 46)=w3 at *;have hz3:=kW.size;have hL3:=HLR.out.below kW;have g0:=(kW.block _ (by omega)).trans WI.out.1;have g1:=(kW.block _ (by omega)).trans WI.out.2;have hk3:=gW.of kW aeh;have WH:=ah hL3;have HT3:=ah (HTr.out.below kW);obtain⟨y0,y1,y2,y3,y4,y5,y6,y7⟩:=aG g0;obtain⟨q0,qz⟩:=aH g1;obtain⟨v0,v1,v2,v3,v4,v5,v6,v7⟩:=aG gk;have HGK:=ah gk;clear hL3 g0 g1 gk WI HLR HTr
    obtain⟨bb,WJ⟩:∃ bb,decide (op=22∧k=1)=bb:=⟨_,rfl⟩
    have WK:=ah WJ;clear WJ
    go_cut [53] (fun v wc=>v=.bool bb∧w3=wc)
    case first =>
     by_cases h22:op=22
     ·have hh:((op:Int) == 22)=true:=by simp[h22]
      by_cases hk1:k=1
      ·have hbt:Hid (bb=true):=ah (by rw[← WK.out];exact decide_eq_true ⟨h22,hk1⟩)
       subst hk1;clear h22;go_wp2
       go_meet
       exact⟨by rw[hbt.out],rfl⟩
      ·have hbt:Hid (bb=false):=ah (by rw[← WK.out];exact decide_eq_false (fun q=>hk1 q.2))
       have hk2:((k:Int) == 1)=false:=by simp;omega
       clear h22;go_wp2
       go_meet
       exact⟨by rw[hbt.out],rfl⟩
     ·have hh:((op:Int) == 22)=false:=by simp[h22]
      have hbt:Hid (bb=false):=ah (by rw[← WK.out];exact decide_eq_false (fun q=>h22 q.1));clear h22;go_wp2
      go_meet
      exact⟨by rw[hbt.out],rfl⟩
    case rest =>
     obtain⟨rfl,rfl⟩:=hcut;have HKP:=ah (fun (W:World) (hW:gW lb w3 W)=>(show gW lb w2 W from hkr.trans (hk3.trans hW)))
     cases bb with
     | true =>
      have hin:KI op nm bd k=bF (bd++[nm]):=by rw[KI,if_pos (of_decide_eq_true WK.out)]
      rw[hin] at YI;have hsl:=kY (bd++[nm]);rw[bP,List.length_singleton] at hsl;have HW:=ah (DF (fun _=>True) ab cb (.slice (some ⟨w3.heap.size,0,none⟩) 1 1) bd [nm] (w3.alloc (.cells #[.string ⟨nm.toArray⟩] 9)).drew (((HT3.out.below (aj w3 _)).below (Below.refl _ _).drew).imp fun _ _ _=>trivial) ((PS w3 nm).below (Below.refl _ _).drew) (by omega) (by simp));have hb4:Below w3.heap.size w3 (w3.alloc (.cells #[.string ⟨nm.toArray⟩] 9)).drew:=(aj w3 _).drew;have hsr:=tJ (bd++[nm]);have HSR:=ah hsr;clear hin hsr WK;generalize bF (bd++[nm])=S at *
      have hn0:w.heap.size<w3.heap.size:=by omega
      have hn1:w.heap.size+1<w3.heap.size:=by omega
      have hne1:wr.heap.size≠lb:=by omega
      have hne2:w.heap.size+1≠lb:=by omega
      have abo:w.heap.size≠lb:=by omega
      have HS:Hid (∀ W,aQ (fun b=>b≠lb) w3 W→((W.cell? ⟨wr.heap.size,0,none⟩=some (.int .i64 x.op)∧W.cell? ⟨wr.heap.size,1,none⟩=some (.string ⟨x.name.toArray⟩)∧W.cell? ⟨wr.heap.size,2,none⟩=some (.string ⟨x.module.toArray⟩)∧W.cell? ⟨wr.heap.size,3,none⟩=some (.bool (decide (x.num<0)))∧W.cell? ⟨wr.heap.size,4,none⟩=some (.slice Vu Vv Vw)∧W.cell? ⟨wr.heap.size,5,none⟩=some (.bool x.yes)∧W.cell? ⟨wr.heap.size,6,none⟩=some (.slice Zm x.kids.length Zn)∧W.cell? ⟨wr.heap.size,7,none⟩=some (.int .i64 x.at_))∧W.cell? ⟨w.heap.size+1,0,none⟩=some (.slice ab bd.length cb)∧W.cell? ⟨w.heap.size,1,none⟩=some (.string ⟨nm.toArray⟩))):=ah fun W hW=>⟨aG ((hW.2 wr.heap.size hne1 aei).trans HGK.out),(World.cell?_of_block (a:=⟨w.heap.size+1,0,none⟩) (hW.2 _ hne2 hn1)).trans q0,(World.cell?_of_block (a:=⟨w.heap.size,1,none⟩) (hW.2 _ abo hn0)).trans y1⟩
      go_upto_region 10 with fail
      go_region_held3 (fun W=>(W.cell? ⟨wr.heap.size,0,none⟩=some (.int .i64 x.op)∧W.cell? ⟨wr.heap.size,1,none⟩=some (.string ⟨x.name.toArray⟩)∧W.cell? ⟨wr.heap.size,2,none⟩=some (.string ⟨x.module.toArray⟩)∧W.cell? ⟨wr.heap.size,3,none⟩=some (.bool (decide (x.num<0)))∧W.cell? ⟨wr.heap.size,4,none⟩=some (.slice Vu Vv Vw)∧W.cell? ⟨wr.heap.size,5,none⟩=some (.bool x.yes)∧W.cell? ⟨wr.heap.size,6,none⟩=some (.slice Zm x.kids.length Zn)∧W.cell? ⟨wr.heap.size,7,none⟩=some (.int .i64 x.at_))∧W.cell? ⟨w.heap.size+1,0,none⟩=some (.slice ab bd.length cb)∧W.cell? ⟨w.heap.size,1,none⟩=some (.string ⟨nm.toArray⟩))
       (first|(with_reducible exact p3)|(go_keep;done))
       (first
        | (go_at_call 61;refine HW.out.mono ?_;rintro e w5 ⟨a5,c5,rfl,ht5,hb5⟩;have WL:=hb4.trans (hb5.mono (by simp));have HEX:=HK.out w5 a5 c5 S (WH.out.below WL) ((aQ.of kW).trans (aQ.of WL)) (ht5.imp fun q hq _=>by have:=hb4.size;omega) HSR.out (by omega);have p3:=HS.out w5 (aQ.of WL))
        | (go_at_call 86;refine HEX.mono ?_;rintro e w6 ⟨rfl,hl6,yB⟩;have p3:=HS.out w6 ((aQ.of WL).trans yB.2)))
      all_goals
       clear p3 v0 v1 v2 v3 v4 v5 v6 v7 y0 y1 y2 y3 y4 y5 y6 y7 q0 HS HK;go_wp2_with fail
       go_roundw
       case rel=>exact⟨k+1,by omega,by go_num,by rw[YI.out];exact hl6,HKP.out _ ((gW.of WL (by omega)).trans yB)⟩
       case measure=>simp[intOf];omega
     | false =>
      have hin:KI op nm bd k=bd:=by rw[KI,if_neg (of_decide_eq_false WK.out)]
      rw[hin] at YI;have HEX:=ah (HK.out w3 ab cb bd WH.out (aQ.of kW) HT3.out HR.out (by omega));clear hin WK HK;go_wp2_with (go_at_call 86;refine HEX.out.mono ?_;rintro e w4 ⟨rfl,hl4,hk4⟩)
      go_roundw
      case rel=>exact⟨k+1,by omega,by go_num,by rw[YI.out];exact hl4,HKP.out _ hk4⟩
      case measure=>simp[intOf];omega
   ·obtain rfl:k=ks.length:=by omega
    have nJ:decide ((ks.length:Int)<(ks.length:Int))=false:=decide_eq_false (by omega);go_wp2
    go_end0
    refine⟨rfl,?_,aeg.trans hkr⟩;rw[Zk.out];have:=HLR.out;rw[List.take_length,Sn.out,zn] at this;exact this
mutual
theorem Sq:∀ x:PZ,IE x
 | .mk op nm md num yes kids a=>Ol _ (DN kids)
theorem DN:∀ l:List PZ,∀ k∈l,IE k
 | [],k,h=>by cases h
 | e :: l,k,h=>by
  rcases List.mem_cons.1 h with q|q
  ·rw[q];exact Sq e
  ·exact DN l k q
end
end Go.Proofs.YtknicmmigbhpcaaGreatDoor

namespace Go.Proofs.YtknicmmigbhpcaaGreatDoor
open Go.RowKit Go
end Go.Proofs.YtknicmmigbhpcaaGreatDoor

namespace Go.Proofs.YtknicmmigbhpcaaGreatDoor
open Go.RowKit Go
def ED (d:ZD)(ap:Option Addr)(cp:Nat)(ac:Option Addr)(cc:Nat)(am:Option Addr)(wn cm:Nat)(ae:Option Addr)(ce:Nat):Array Value:=#[.bool d.pub,.string ⟨d.res.name.toArray⟩,.slice ap d.params.length cp,.int .i64 d.res.base,.slice ac d.res.clause.length cc,.int .i64 d.body.op,.string ⟨d.body.name.toArray⟩,.string ⟨d.body.module.toArray⟩,.bool (decide (d.body.num<0)),.slice am wn cm,.bool d.body.yes,.slice ae d.body.kids.length ce,.int .i64 d.body.at_,.int .i64 d.res.at_,.int .i64 d.res.bare]
theorem DT {w:World}{b:Nat}{d:ZD}{ap:Option Addr}{cp:Nat}{ac:Option Addr}{cc:Nat}{am:Option Addr}{wn cm:Nat}{ae:Option Addr}{ce:Nat}(h:w.heap[b]?=some (.cells (ED d ap cp ac cc am wn cm ae ce) 48 (0,0))) :
  w.cell? ⟨b,0,none⟩=some (.bool d.pub)∧w.cell? ⟨b,1,none⟩=some (.string ⟨d.res.name.toArray⟩)∧w.cell? ⟨b,2,none⟩=some (.slice ap d.params.length cp)∧w.cell? ⟨b,3,none⟩=some (.int .i64 d.res.base)∧w.cell? ⟨b,4,none⟩=some (.slice ac d.res.clause.length cc)∧w.cell? ⟨b,5,none⟩=some (.int .i64 d.body.op)∧w.cell? ⟨b,6,none⟩=some (.string ⟨d.body.name.toArray⟩)∧w.cell? ⟨b,7,none⟩=some (.string ⟨d.body.module.toArray⟩)∧w.cell? ⟨b,8,none⟩=some (.bool (decide (d.body.num<0)))∧w.cell? ⟨b,9,none⟩=some (.slice am wn cm)∧w.cell? ⟨b,10,none⟩=some (.bool d.body.yes)∧w.cell? ⟨b,11,none⟩=some (.slice ae d.body.kids.length ce)∧w.cell? ⟨b,12,none⟩=some (.int .i64 d.body.at_)∧w.cell? ⟨b,13,none⟩=some (.int .i64 d.res.at_)∧w.cell? ⟨b,14,none⟩=some (.int .i64 d.res.bare):=by
 refine⟨?_,?_,?_,?_,?_,?_,?_,?_,?_,?_,?_,?_,?_,?_,?_⟩<;>(rw[Lib.cell_of_heap h];rfl)
structure Om (d:ZD) (B:Nat) (ap:Option Addr) (cp:Nat) (ac:Option Addr) (cc:Nat) (am:Option Addr) (wn cm:Nat) (ae:Option Addr) (ce:Nat) (w:World):Prop where
 jS:Pv B w ap d.params
 cl:jH B w ac d.res.clause
 body:oI YA (fun k=>k<B) w (.slice am wn cm) (.slice ae d.body.kids.length ce) d.body
 hB:B≤w.heap.size
theorem Om.sI {d:ZD}{B:Nat}{ap:Option Addr}{cp:Nat}{ac:Option Addr}{cc:Nat}{am:Option Addr}{wn cm:Nat}{ae:Option Addr}{ce:Nat}{w W:World}(h:Om d B ap cp ac cc am wn cm ae ce w)(hW:Below B w W):Om d B ap cp ac cc am wn cm ae ce W:=⟨h.jS.sI hW,h.cl.sI hW,h.body.frame (aQ.sI hW fun b hb=>hb),Nat.le_trans h.hB hW.size⟩
theorem Om.below {d:ZD}{B:Nat}{ap:Option Addr}{cp:Nat}{ac:Option Addr}{cc:Nat}{am:Option Addr}{wn cm:Nat}{ae:Option Addr}{ce:Nat}{w W:World}(h:Om d B ap cp ac cc am wn cm ae ce w)(hW:Below w.heap.size w W):Om d B ap cp ac cc am wn cm ae ce W:=h.sI (hW.mono h.hB)
structure ZD.uV (d:ZD):Prop where
 jS:d.params.length≤1000
 pcl:∀ f∈d.params,f.clause.length≤1000∧∀ e∈f.clause,e.size≤400000
 cl:d.res.clause.length≤1000∧∀ e∈d.res.clause,e.size≤400000
 body:d.body.size≤400000
end Go.Proofs.YtknicmmigbhpcaaGreatDoor

namespace Go.Proofs.YtknicmmigbhpcaaGreatDoor
open Go.RowKit Go
open Go.RowKit Go
end Go.Proofs.YtknicmmigbhpcaaGreatDoor

namespace Go.Proofs.YtknicmmigbhpcaaGreatDoor
open Go.RowKit Go
def PU (B:Nat)(w:World)(ai:Option Addr)(l:List (List UInt8 × Int)):Prop:=0<l.length→∃ b off,ai=some ⟨b,off,none⟩∧b<B∧b<w.heap.size∧∀ i,(hi:i<l.length)→w.cell? ⟨b,off+i * 2,none⟩=some (.string ⟨l[i].1.toArray⟩)∧w.cell? ⟨b,off+i * 2+1,none⟩=some (.int .i64 l[i].2)
def PV (B:Nat)(w:World)(ad:Option Addr)(l:List ZD):Prop:=0<l.length→∃ b off,ad=some ⟨b,off,none⟩∧b<B∧b<w.heap.size∧∀ i,(hi:i<l.length)→∃ ap cp ac cc am wn cm ae ce,Om l[i] B ap cp ac cc am wn cm ae ce w∧∀ j u,(ED l[i] ap cp ac cc am wn cm ae ce)[j]?=some u→w.cell? ⟨b,off+i * 15+j,none⟩=some u
theorem PU.sI {B:Nat}{w W:World}{ai:Option Addr}{l:List (List UInt8 × Int)}(h:PU B w ai l)(hW:Below B w W):PU B W ai l:=fun h0=>by
 obtain⟨b,off,q1,q2,q3,q4⟩:=h h0;exact⟨b,off,q1,q2,Nat.lt_of_lt_of_le q3 hW.size,fun i hi=>⟨(hW.cell (p:=⟨b,off+i * 2,none⟩) q2).trans (q4 i hi).1,(hW.cell (p:=⟨b,off+i * 2+1,none⟩) q2).trans (q4 i hi).2⟩⟩
theorem PV.sI {B:Nat}{w W:World}{ad:Option Addr}{l:List ZD}(h:PV B w ad l)(hW:Below B w W):PV B W ad l:=fun h0=>by
 obtain⟨b,off,q1,q2,q3,q4⟩:=h h0;refine⟨b,off,q1,q2,Nat.lt_of_lt_of_le q3 hW.size,fun i hi=>?_⟩;obtain⟨ap,cp,ac,cc,am,wn,cm,ae,ce,q5,q6⟩:=q4 i hi;exact⟨ap,cp,ac,cc,am,wn,cm,ae,ce,q5.sI hW,fun j u hu=>(hW.cell (p:=⟨b,off+i * 15+j,none⟩) q2).trans (q6 j u hu)⟩
structure abp (p:ZP) (B:Nat) (ai ad:Option Addr) (w:World):Prop where
 imps:PU B w ai p.imports
 defs:PV B w ad p.defs
 hB:B≤w.heap.size
theorem abp.sI {p:ZP}{B:Nat}{ai ad:Option Addr}{w W:World}(h:abp p B ai ad w)(hW:Below B w W):abp p B ai ad W:=⟨h.imps.sI hW,h.defs.sI hW,Nat.le_trans h.hB hW.size⟩
theorem ZP.YQ {p:ZP}(h:0<p.imports.length∨0<p.defs.length):p.text≠[]:=by
 intro q;have hq:=congrArg List.length q;rw[ZP.text,bP,List.length_nil] at hq
 rcases h with h|h
 ·match hi:p.imports,h with
  | m :: l,_=>rw[hi] at hq;simp[YR] at hq
 ·match hi:p.defs,h with
  | d :: l,_=>rw[hi] at hq;simp[ZD.text] at hq
def AP (p:ZP)(w:World)(r:Ending)(w':World):Prop:=(r=.returned (.tuple #[.string ⟨(if p.right=true then p.text else []).toArray⟩,.int .i64 (if p.right=true then 0 else 10)]))∧Below w.heap.size w w'
theorem AP.no {p:ZP}{w w':World}(h:p.right=false)(hb:Below w.heap.size w w'):AP p w (.returned (.tuple #[.string ⟨#[]⟩,.int .i64 10])) w':=⟨by rw[h];rfl,hb⟩
theorem AP.yes {p:ZP}{w w':World}(h:p.right=true)(hb:Below w.heap.size w w'):AP p w (.returned (.tuple #[.string ⟨p.text.toArray⟩,.int .i64 0])) w':=⟨by rw[h];rfl,hb⟩
end Go.Proofs.YtknicmmigbhpcaaGreatDoor

namespace Go.Proofs.YtknicmmigbhpcaaGreatDoor
open Go.RowKit Go
end Go.Proofs.YtknicmmigbhpcaaGreatDoor

namespace Go.Proofs.YtknicmmigbhpcaaGreatDoor
open Go.RowKit Go
theorem Tryz.Sr:(Tryz.prog.info? 46).map (fun i=>(i.zero,i.size,i.bytes))=some (some (.agg #[.int .i64 0,.string ⟨#[]⟩,.string ⟨#[]⟩,.bool false,.slice none 0 0,.bool false,.slice none 0 0,.int .i64 0]),8,112):=by kernel_rfl
def abq (n:Nat)(cs:List Value)(w:World)(e:Ending)(w':World):Prop:=∃ a c,e=.returned (.slice a n c)∧lS (fun b=>w.heap.size≤b) w' (.slice a n c) 8 n cs∧Below w.heap.size w w'
theorem DU (P:Nat→Prop)(v:Value)(n:Nat)(cs:List Value)(w:World)(h:lS P w v 8 n cs)(h1:∀ u∈cs,u.oneCell'=true)(hn:n≤1000000) :
  Calls Tryz.prog 38 #[v] w (abq n cs w):=by
 obtain⟨i0,hi,hz0,hz1,hz2⟩:=info_parts Tryz.Sr;obtain⟨ao,cap,rfl,hcap,hlen,hf⟩:=h
 have q22:∀ (w:World) (a:Option Addr) (n c n' c':Nat),(binOp .eql 29 (.slice a n c) (.slice none n' c')).run Tryz.prog w=.ok (.bool a.isNone) w:=fun w a n c n' c'=>Lib.run_eql_slice_nil w _ _ a n c n' c' Tryz.underlying29
 have u22:∀ w,Sem.run Tryz.prog (underlying 29) w=.ok (TypeDesc.slice 46) w:=run_underlying Tryz.underlying29
 cases ao with
 | none =>
  have hn0:n=0:=by
   rcases Nat.eq_zero_or_pos n with q|q
   ·exact q
   ·obtain⟨b,off,q1,_⟩:=hf q;cases q1
  subst hn0;obtain rfl:cs=[]:=List.eq_nil_of_length_eq_zero (by omega);clear hf hlen h1;go_enter Tryz.func38,Tryz.ntmps38;go_wp2;go_ret;exact⟨none,0,rfl,lS.nil _ _ _,Below.refl _ _⟩
 | some ad =>
  have hnews:∀ j u,cs[j]?=some u→w.cell? (ad.add j)=some u:=fun j u hj=>by
   obtain⟨h2,h3⟩:=mR hj;obtain⟨b,off,q1,_,_,q2⟩:=hf (by omega)
   injection q1 with q1
   rw[q1,Addr.add_lit,q2 j h2,h3]
  have aej:∀ j u,cs[j]?=some u→(ad.add j).block<w.heap.size:=fun j u hj=>by
   obtain⟨h2,h3⟩:=mR hj;obtain⟨b,off,q1,_,q3,q2⟩:=hf (by omega)
   injection q1 with q1
   rw[q1,Addr.add_lit];exact q3
  have A:=ah hnews;have HLEN:=ah hlen;have HU:=ah h1;clear hf hlen h1 hnews;go_enter Tryz.func38,Tryz.ntmps38;go_wp2_with (at_builtin;refine wpList_append_own _ rfl _ _ 29 rfl w.heap.size 46 i0 (.agg #[.int .i64 0,.string ⟨#[]⟩,.string ⟨#[]⟩,.bool false,.slice none 0 0,.bool false,.slice none 0 0,.int .i64 0]) 8 112 Tryz.underlying29 hi hz0 hz1 hz2 rfl (by decide) _ _ _ rfl (World.ownsRow_made w #[] 0 (Nat.le_refl _) (Nat.zero_le _) rfl) ad n cap cs rfl ?qc1 ?qc2 ?qc3 ?qc4 ?qc5 ?qc6 ?_)
  case qc1=>exact HLEN.out
  case qc2 =>
   intro j u hj;have:=A.out j u hj;rw[World.cell?_of_block (Lib.alloc_old w _ _ (aej j u hj))];exact this
  case qc3=>exact HU.out
  case qc4=>unfold maxLen;omega
  case qc5=>omega
  case qc6=>simp
  intro v' w1 hown hgrow hnil;have hb:Below w.heap.size w w1:=((Below.refl _ w).alloc (Nat.le_refl _) _).grown hgrow (by simp) (by intro k hk;simp[Value.ownBlock] at hk;omega)
  have hsl:=lS.fF (P:=fun b=>w.heap.size≤b) hown fun _ hb=>hb
  have hvf:∃ a c,v'=.slice a n c:=by
   rcases hown.2 with ⟨q,q2⟩|⟨g,cap',cur,q,_⟩
   ·exact⟨none,0,by rw[q,show n=0 by omega]⟩
   ·exact⟨_,_,q⟩
  obtain⟨a',c',rfl⟩:=hvf;clear hown hgrow hnil;go_wp2;go_ret;exact⟨a',c',rfl,hsl,hb⟩
end Go.Proofs.YtknicmmigbhpcaaGreatDoor
