/- Walks and plain laws: ScopeW3, ScopeW4, ScopeW5. -/
import Derived.Test.YtknicmmigbhpcaaGreatDoorF24
set_option maxHeartbeats 16000000
set_option maxRecDepth 100000
set_option linter.unusedVariables false
set_option linter.unusedSimpArgs false
namespace Go.Proofs.YtknicmmigbhpcaaGreatDoor
open Go.RowKit Go
def abB:Option (List Value)→Option Nat→Prop
 | none,none=>True
 | some vs,some n=>∃ s a c b u,vs=[s,.slice a n c,b,u]
 | _,_=>False
structure ScM (E:SE) (C:TJ) (lb B:Nat) (im:Value) (w:World):Prop where
 map:∃ mv ml,wH B C.db mv ml w∧ml.length≤1000000∧∀ nm,abB (qE ml nm) (E.arity nm)
 imps:fM (fun b=>b≠lb) w im E.imps
 rise:E.imps.Pairwise (· < ·)
 few:E.imps.length≤500000
 faces:∃ ms:List (List UInt8),ms.length≤1000000∧RowK sQ (fun b=>b≠lb) w C.fs ms
 ext:E.ext=fun _ _=>none
theorem ZY {P:Nat→Prop}{B e sz n:Nat}{w w':World}{v:Value}{xs:List Value}(h:w.ownsRow B e sz v n xs)(ha:aT P w w')(hP:∀ b,some b=v.ownBlock→P b):w'.ownsRow B e sz v n xs:=by
 obtain⟨hl,h⟩:=h;refine⟨hl,?_⟩
 rcases h with h|⟨g,cap,cur,rfl,hg,hh,hn⟩
 ·exact .inl h
 ·exact .inr ⟨g,cap,cur,rfl,hg,(ha.2 g (hP g rfl) (bQ hh).1).trans hh,hn⟩
theorem wH.alk {P:Nat→Prop}{B mb:Nat}{v:Value}{l:ML}{w w':World}(h:wH B mb v l w)(ha:aT P w w')(hm:P mb)(hP:∀ b,some b=v.ownBlock→P b):wH B mb v l w' :=
 ⟨h.wf,(ha.2 mb hm (bQ h.box).1).trans h.box,ZY h.own ha hP⟩
theorem ScM.keep {E:SE}{C:TJ}{lb B:Nat}{im:Value}{f:Fl}{w w':World}(h:ScM E C lb B im w)(hl:kM C lb im f w)(ha:aT (fun b=>b≠lb) w w'):ScM E C lb B im w':=by
 obtain⟨⟨mv,ml,h1,h2,h3⟩,h4,h5,h6,⟨ms,h7,h8⟩,h9⟩:=h;refine⟨⟨mv,ml,h1.alk ha (fun q=>?_) (fun b hb q=>?_),h2,h3⟩,h4.frame ha,h5,h6,⟨ms,h7,h8.frame ha⟩,h9⟩
 ·have h0:=h1.box
  rw[q,hl] at h0;simp only[Option.some.injEq,Obj.cells.injEq] at h0;exact absurd h0.2.1 (by decide)
 ·subst q
  exact own_ne h1.own hl (by decide) hb
theorem Xe {l:ML}{x:List UInt8}{k:Nat}(hw:Ab k l){ar:Option Nat}(h:abB (qE l x) ar):∃ (s b u:Value) (a:Option Addr) (n c:Nat) (fd:Bool),(∀ W e w',zl l x W e w'→e=.returned (.tuple #[.agg #[s,.slice a n c,b,u],.bool fd])∧Below W.heap.size W w')∧(s.oneCell'=true∧b.oneCell'=true∧u.oneCell'=true)∧∀ kn at_,Dx ar kn at_=if fd=true then (if n=kn then none else some (32,at_)) else some (31,at_):=by
 cases hg:qE l x with
 | none =>
  rw[hg] at h
  cases ar with
  | some n=>exact h.elim
  | none =>
   refine⟨.string ⟨#[]⟩,.int .i64 0,.slice none 0 0,none,0,0,false,fun W e w' q=>?_,⟨rfl,rfl,rfl⟩,fun kn at_=>rfl⟩;unfold zl at q;rw[hg] at q;exact q
 | some vs =>
  rw[hg] at h
  cases ar with
  | none=>exact h.elim
  | some n =>
   obtain⟨s,a,c,b,u,rfl⟩:=h
   have hone:∀ y∈[s,Value.slice a n c,b,u],y.oneCell'=true:=by
    unfold qE at hg;obtain⟨p,hp,hq⟩:=Option.map_eq_some_iff.1 hg;rw[← hq];exact hw.one p (List.mem_of_find?_eq_some hp)
   refine⟨s,b,u,a,n,c,true,fun W e w' q=>?_,⟨hone s (by simp),hone b (by simp),hone u (by simp)⟩,fun kn at_=>rfl⟩;unfold zl at q;rw[hg] at q;exact q
theorem Dz (w:World)(b k:Nat)(v0 v1 v2 v3:Value)(h:k≠b):(sU w b v0 v1 v2 v3).heap[k]?=w.heap[k]? :=
 (heap_setCell_other _ _ _ _ h).trans ((heap_setCell_other _ _ _ _ h).trans ((heap_setCell_other _ _ _ _ h).trans (heap_setCell_other _ _ _ _ h)))
theorem kP (w:World)(b c i:Nat)(v0 v1 v2 v3:Value)(h:c≠b):((((w.setCell ⟨b,0,none⟩ v0).setCell ⟨b,1,none⟩ v1).setCell ⟨b,2,none⟩ v2).setCell ⟨b,3,none⟩ v3).cell? ⟨c,i,none⟩=w.cell? ⟨c,i,none⟩ :=
 World.cell?_of_block (a:=⟨c,i,none⟩) ((heap_setCell_other _ _ _ _ h).trans ((heap_setCell_other _ _ _ _ h).trans ((heap_setCell_other _ _ _ _ h).trans (heap_setCell_other _ _ _ _ h))))
theorem TL (E:SE)(C:TJ)(lb B:Nat)(im:Value)(f:Fl)(op:Int)(nm md:List UInt8)(ng ys:Bool)(mv:Value)(ae:Option Addr)(n ce:Nat)(a_:Int)(w:World)(hL:kM C lb im f w)(hM:ScM E C lb B im w)(hf:gY f) :
  Calls Tryz.prog 142 #[.pointer (some ⟨lb,0,none⟩),.agg (aY op ⟨nm.toArray⟩ ⟨md.toArray⟩ ng mv ys (.slice ae n ce) a_)] w (wX C lb im (l7 f (Gz E nm md n a_)) w):=by
 have hal:=aj w (.cells (aY op ⟨nm.toArray⟩ ⟨md.toArray⟩ ng mv ys (.slice ae n ce) a_) 46);have hN:=heap_alloc_new w (.cells (aY op ⟨nm.toArray⟩ ⟨md.toArray⟩ ng mv ys (.slice ae n ce) a_) 46);have hL1:=hL.below hal;have hM1:=hM.keep hL (aT.of hal);have hk1:=cZ.of hal hL.lt;obtain⟨⟨mv',ml,hm1,hm2,hm3⟩,hi1,hi2,hi3,⟨ms,hs1,hs2⟩,hx⟩:=hM1;obtain⟨s,b,u,a,np,c,fd,hget,⟨o1,o2,o3⟩,har⟩:=Xe hm1.wf (hm3 nm);have HG:=ah (fun W (hW:Below (w.alloc (.cells (aY op ⟨nm.toArray⟩ ⟨md.toArray⟩ ng mv ys (.slice ae n ce) a_) 46)).heap.size (w.alloc (.cells (aY op ⟨nm.toArray⟩ ⟨md.toArray⟩ ng mv ys (.slice ae n ce) a_) 46)) W)=>(Kz B C.db mv' ml nm W (hm1.below hW) hm2).mono fun e w' q=>hget W e w' q);obtain⟨ai,ci,rfl,-,-⟩:=hi1.slice;have HH:=ah (fun W (hW:Below (w.alloc (.cells (aY op ⟨nm.toArray⟩ ⟨md.toArray⟩ ng mv ys (.slice ae n ce) a_) 46)).heap.size (w.alloc (.cells (aY op ⟨nm.toArray⟩ ⟨md.toArray⟩ ng mv ys (.slice ae n ce) a_) 46)) W)=>Bn _ ai ci E.imps ⟨md.toArray⟩ W (hi1.below hW) hi2 (by omega));obtain⟨af,cf,hfs⟩:=hs2.slice;have HF:=ah (fun W (hW:Below (w.alloc (.cells (aY op ⟨nm.toArray⟩ ⟨md.toArray⟩ ng mv ys (.slice ae n ce) a_) 46)).heap.size (w.alloc (.cells (aY op ⟨nm.toArray⟩ ⟨md.toArray⟩ ng mv ys (.slice ae n ce) a_) 46)) W)=>TK _ af cf ms md nm W (by rw[← hfs];exact hs2.frame (aT.of hW)) hs1);have HFS:=ah hfs
 have hcf:∀ q,Gz E nm md n q=if md=[] then (if fd=true then (if np=n then none else some (32,q)) else some (31,q)) else if md∈E.imps then some (31,q) else some (33,q):=fun q=>by
  unfold Gz;rw[har,hx]
  rfl
 rw[hcf]
 obtain⟨R,hR⟩:∃ R,R=l7 f (if md=[] then (if fd=true then (if np=n then none else some (32,a_)) else some (31,a_)) else if md∈E.imps then some (31,a_) else some (33,a_)):=⟨_,rfl⟩
 rw[← hR];have Ra:=ah (fun W (hW:kM C lb (.slice ai E.imps.length ci) f W) (e:Int)=>vE C lb (.slice ai E.imps.length ci) f e a_ W hW hf);have hbb:=hL.lt;clear hcf har hx hget hm1 hm2 hm3 hi1 hi2 hi3 hs1 hs2 hM hL hfs hf;generalize E.imps=L at *;have HR:=ah hR;clear hR;simp only at HH;go_enter Tryz.func142,Tryz.ntmps142
 go_upto_region 1 with fail
 change Code.wp _ _ _ _ (w.alloc (.cells (aY op ⟨nm.toArray⟩ ⟨md.toArray⟩ ng mv ys (.slice ae n ce) a_) 46))
 have hz:w.heap.size<(w.alloc (.cells (aY op ⟨nm.toArray⟩ ⟨md.toArray⟩ ng mv ys (.slice ae n ce) a_) 46)).heap.size:=by simp
 generalize w.alloc _=w1 at *;obtain⟨⟨k0,k1',k2,k3,k4,k5,k6,k7⟩,kz⟩:=hL1.cells;obtain⟨y0,y1,y2,y3,y4,y5,y6,y7⟩:=aG hN
 have s1:=fun a m W=>run_store Tryz.prog W a s m o1
 have s2:=fun a m W=>run_store Tryz.prog W a b m o2
 have s3:=fun a m W=>run_store Tryz.prog W a u m o3
 have hn1:lb≠w1.heap.size:=by omega
 have hn2:w.heap.size≠w1.heap.size:=by omega
 have Xf:=ah hL1;have HN:=ah hN;clear hL1 hN kz
 go_cut [4,5] (fun p q wc=>∃ Y:Nat,p=.pointer (some ⟨Y,0,none⟩)∧q=.bool fd∧wc.heap[Y]?=some (.cells #[s,.slice a np c,b,u] 31 (0,0))∧w1.heap.size≤Y∧Below w1.heap.size w1 wc)
 case first =>
  go_region_held3 (fun W=>W.cell? ⟨lb,5,none⟩=some (.pointer (some ⟨C.db,0,none⟩))∧W.cell? ⟨w.heap.size,1,none⟩=some (.string ⟨nm.toArray⟩))
   (first|(with_reducible exact p3)|(with_reducible exact And.intro ((kP w2 w1.heap.size lb 5 _ _ _ _ hn1).trans p3.1) ((kP w2 w1.heap.size w.heap.size 1 _ _ _ _ hn2).trans p3.2))|(go_keep;done))
   (first|(go_at_call 55;refine(HG.out _ ?_).mono ?_;(first|exact(Below.refl _ _).drew|exact((Below.refl _ _).alloc (Nat.le_refl _) _).drew);rintro e w2 ⟨rfl,hb2⟩;have hq2:Below w1.heap.size w1 w2:=(by first|exact(Below.refl _ _).drew.trans hb2|exact((Below.refl _ _).alloc (Nat.le_refl _) _).drew.trans (hb2.mono (by simp)));have p3:=And.intro (cell_later hq2 k5) (cell_later hq2 y1);try (have hT:=(hb2.block w1.heap.size (by simp)).trans (heap_alloc_new w1 (.cells #[.string ⟨#[]⟩,.slice none 0 0,.int .i64 0,.slice none 0 0] 31));obtain⟨⟨t0,t1,t2,t3⟩,g0,g1,g2,g3⟩:=oO hT)))
  ·clear s1 s2 s3
   go_wp2_with fail
   go_meet
   exact⟨w2.heap.size,rfl,rfl,heap_alloc_new w2 _,hq2.size,hq2.alloc hq2.size _⟩
  ·clear s1 s2 s3
   go_wp2_with fail
   go_meet
   exact⟨w1.heap.size,rfl,rfl,kG hT s (.slice a np c) b u,Nat.le_refl _,jg hq2 (Nat.le_refl _) s (.slice a np c) b u⟩
 case rest =>
  obtain⟨Y,rfl,rfl,hY,hYw,hqc⟩:=hcut
  obtain⟨w2,rfl⟩:∃ w2:World,w2=wc:=⟨_,rfl⟩
  clear k0 k1' k2 k3 k4 k5 k6 k7 y0 y1 y2 y3 y4 y5 y6 y7;have hL2:=Xf.out.below hqc;have Jw:=(hqc.block _ hz).trans HN.out;have hzc:=hqc.size;have hk2:=hk1.trans (cZ.of hqc (by omega));obtain⟨⟨k0,k1',k2,k3,k4,k5,k6,k7⟩,kz⟩:=hL2.cells;obtain⟨y0,y1,y2,y3,y4,y5,y6,y7⟩:=aG Jw;obtain⟨⟨c0,c1,c2,c3⟩,f0,f1,f2,f3⟩:=oO hY;have HL2:=ah hL2;have HY:=ah hY;have hYl:=(bQ hY).1;have HNN:=ah Jw;clear hL2 Jw hY kz HN
  go_upto_if 18 with fail
  cases hmd:md.isEmpty with
  | true =>
   have HR1:Hid (R=l7 f (if fd=true then (if np=n then none else some (32,a_)) else some (31,a_))):=ah (by rw[HR.out,if_pos (List.isEmpty_iff.1 hmd)]);clear hmd s1 s2 s3
   cases fd with
   | false =>
    have HFx:=ah (Ra.out w2 HL2.out 31);go_wp2_with (go_at_call 56;refine HFx.out.mono ?_;rintro e w3 ⟨rfl,hl3,hk3⟩)
    go_end0
    exact⟨rfl,by rw[HR1.out];exact hl3,hk2.trans hk3⟩
   | true =>
    by_cases hnp:np=n
    ·subst hnp
     go_wp2
     go_end0
     exact⟨rfl,by have q:=HL2.out;rw[HR1.out];simpa [nO] using q,hk2⟩
    ·have HR2:Hid (R=l7 f (some (32,a_))):=ah (by rw[HR1.out,if_pos rfl,if_neg hnp])
     have HFx:=ah (Ra.out w2 HL2.out 32);go_wp2_with (go_at_call 56;refine HFx.out.mono ?_;rintro e w3 ⟨rfl,hl3,hk3⟩)
     go_end0
     exact⟨rfl,by rw[HR2.out];exact hl3,hk2.trans hk3⟩
  | false =>
   have hm0:md≠[]:=fun q=>by rw[q] at hmd;cases hmd
   have HHx:=ah (fun W (hW:Below w2.heap.size w2 W)=>HH.out W (hqc.trans (hW.mono hzc)));have HFx:=ah (fun W (hW:Below w2.heap.size w2 W)=>HF.out W (hqc.trans (hW.mono hzc)))
   obtain⟨bb,abC⟩:∃ bb,decide (md∈L)=bb:=⟨_,rfl⟩
   rw[abC] at HHx
   have HR1:Hid (R=l7 f (if bb=true then some (31,a_) else some (33,a_))):=ah (by
    rw[HR.out,if_neg hm0,← abC]
    by_cases q:md∈L
    ·rw[if_pos q,if_pos (decide_eq_true q)]
    ·rw[if_neg q,if_neg (by simpa using q)])
   have HN2:=ah (show w2.heap[w.heap.size]?=some (.cells (aY op ⟨nm.toArray⟩ ⟨md.toArray⟩ ng mv ys (.slice ae n ce) a_) 46 (0,0)) from HNN.out);clear abC hm0 s1 s2 s3 HR HH HF
   go_upto_region 3 with fail
   go_cut [26] (fun v wc=>v=.bool (!bb)∧Below w2.heap.size w2 wc)
   case first =>
    go_region_with (go_at_call 60;refine(HHx.out _ (Below.refl _ _).drew).mono ?_;rintro e w3 ⟨rfl,hb3⟩)
    all_goals
     go_wp2_with fail
     go_meet
     exact⟨rfl,(Below.refl _ _).drew.trans hb3⟩
   case rest =>
    obtain⟨rfl,hq3⟩:=hcut
    obtain⟨w3,rfl⟩:∃ w3:World,w3=wc:=⟨_,rfl⟩
    clear k0 k1' k2 k3 k4 k5 k6 k7 y0 y1 y2 y3 y4 y5 y6 y7 c0 c1 c2 c3 f0 f1 f2 f3 HHx;have hL3:=HL2.out.below hq3;have Yr:=(hq3.block _ (by omega)).trans HN2.out;have hY3:=(hq3.block _ hYl).trans HY.out;have hz3:=hq3.size;have hk3:=hk2.trans (cZ.of hq3 (by omega));obtain⟨⟨k0,k1',k2,k3,k4,k5,k6,k7⟩,kz⟩:=hL3.cells;obtain⟨y0,y1,y2,y3,y4,y5,y6,y7⟩:=aG Yr;obtain⟨⟨c0,c1,c2,c3⟩,f0,f1,f2,f3⟩:=oO hY3;have Nn:=ah hL3;clear kz
    cases bb with
    | false =>
     have HFx:=ah (Ra.out w3 Nn.out 33);have HR2:Hid (R=l7 f (some (33,a_))):=ah (by have q:=HR1.out;simpa using q);go_wp2_with (go_at_call 56;refine HFx.out.mono ?_;rintro e w4 ⟨rfl,hl4,hk4⟩)
     go_end0
     exact⟨rfl,by rw[HR2.out];exact hl4,hk3.trans hk4⟩
    | true =>
     have HR2:Hid (R=l7 f (some (31,a_))):=ah (by have q:=HR1.out;simpa using q);rw[HFS.out] at k3;have HN3:=ah Yr;have HY3:=ah hY3;clear HR1 Yr hY3;have sV:=hal.trans ((hqc.trans (hq3.mono hzc)).mono hal.size);have aey:w.heap.size≤Y:=Nat.le_trans hal.size hYw
     have abD:Y<w3.heap.size:=by omega
     go_upto_region 5 with fail
     go_cut [5] (fun v wc=>v=.bool false∧kM C lb (.slice ai L.length ci) f wc∧wc.heap[w.heap.size]?=some (.cells (aY op ⟨nm.toArray⟩ ⟨md.toArray⟩ ng mv ys (.slice ae n ce) a_) 46 (0,0))∧Below w.heap.size w wc)
     case first =>
      go_region_with (go_at_call 11;refine(HFx.out _ hq3.drew).mono ?_;rintro e w4 ⟨rfl,hb4⟩;have hY4:=(hb4.block Y abD).trans HY3.out;obtain⟨⟨d0,d1,d2,d3⟩,g0,g1,g2,g3⟩:=oO hY4)
      all_goals
       have zP:Below w3.heap.size w3 w4:=(Below.refl _ _).drew.trans hb4
       have HE:Hid (kM C lb (.slice ai L.length ci) f (sU w4 Y (.string ⟨#[]⟩) (.slice none 0 0) (.int .i64 0) (.slice none 0 0))∧(sU w4 Y (.string ⟨#[]⟩) (.slice none 0 0) (.int .i64 0) (.slice none 0 0)).heap[w.heap.size]?=some (.cells (aY op ⟨nm.toArray⟩ ⟨md.toArray⟩ ng mv ys (.slice ae n ce) a_) 46 (0,0))∧Below w.heap.size w (sU w4 Y (.string ⟨#[]⟩) (.slice none 0 0) (.int .i64 0) (.slice none 0 0))) :=
        ah ⟨(Dz w4 Y lb _ _ _ _ (by omega)).trans (Nn.out.below zP),(Dz w4 Y w.heap.size _ _ _ _ (by omega)).trans ((zP.block _ (by omega)).trans HN3.out),jg (sV.trans (zP.mono sV.size)) aey _ _ _ _⟩
       clear d0 d1 d2 d3 g0 g1 g2 g3 hY4 k0 k1' k2 k3 k4 k5 k6 k7 y0 y1 y2 y3 y4 y5 y6 y7 c0 c1 c2 c3 f0 f1 f2 f3 hb4 zP;go_wp2_with fail
       go_meet
       exact⟨rfl,HE.out.1,HE.out.2.1,HE.out.2.2⟩
     case rest =>
      obtain⟨rfl,hl4,Zd,hb4⟩:=hcut
      obtain⟨w4,rfl⟩:∃ w4:World,w4=wc:=⟨_,rfl⟩
      clear k0 k1' k2 k3 k4 k5 k6 k7 y0 y1 y2 y3 y4 y5 y6 y7 c0 c1 c2 c3 f0 f1 f2 f3;obtain⟨y0,y1,y2,y3,y4,y5,y6,y7⟩:=aG Zd;have HFy:=ah (Ra.out w4 hl4 31);clear Zd hl4;go_wp2_with (go_at_call 56;refine HFy.out.mono ?_;rintro e w5 ⟨rfl,hl5,hk5⟩)
      go_end0
      exact⟨rfl,by rw[HR2.out];exact hl5,(cZ.of hb4 hbb).trans hk5⟩
def I7 (x:PZ):Prop:=∀ (E:SE) (C:TJ) (lb B:Nat) (im:Value) (f:Fl) (am:Option Addr) (wn cm:Nat) (ae:Option Addr) (ce:Nat) (ab:Option Addr) (cb:Nat) (bd:List (List UInt8)) (res:Bool) (w:World),kM C lb im f w→ScM E C lb B im w→gY f →
 nM YA (fun b=>b≠lb) w (.slice am wn cm) (.slice ae x.kids.length ce) x→fM (fun b=>b≠lb) w (.slice ab bd.length cb) bd→bd.Pairwise (· < ·)→bd.length+x.size≤500000 →
 Calls Tryz.prog 86 #[.pointer (some ⟨lb,0,none⟩),.agg (aY x.op ⟨x.name.toArray⟩ ⟨x.module.toArray⟩ (decide (x.num<0)) (.slice am wn cm) x.yes (.slice ae x.kids.length ce) x.at_),.agg #[.slice ab bd.length cb],.bool res] w (wX C lb im (l7 f (x.fI E bd res)) w)
theorem I8 (w:World)(x:List UInt8):fM (fun _=>True) (w.alloc (.cells #[.string ⟨x.toArray⟩] 9)) (.slice (some ⟨w.heap.size,0,none⟩) 1 1) [x]:=by
 refine⟨⟨_,1,rfl,Nat.le_refl _,rfl,fun _=>⟨w.heap.size,0,rfl,trivial,by simp,fun i hi=>?_⟩⟩,fun n c q=>by cases q⟩
 obtain rfl:i=0:=by simpa using hi
 rw[Lib.cell_of_heap (heap_alloc_new w _)]
 rfl
theorem PZ.Dp (e:PZ):e.size=sM e.kids+1:=by cases e;rw[PZ.size];rfl
theorem Mr:∀ {l:List PZ} {k:Nat} (h:k<l.length),l[k].size≤sM l
 | [],_,h=>absurd h (by simp)
 | e :: l,0,_=>by rw[sM];exact Nat.le_add_right _ _
 | e :: l,k+1,h=>by
  rw[sM];have:=Mr (l:=l) (k:=k) (by simpa using h);simp only[List.getElem_cons_succ];omega
theorem DC:∀ l:List PZ,l.length≤sM l
 | []=>Nat.le_refl _
 | e :: l=>by
  have h1:=DC l;have h2:=e.Dp;rw[dI,sM];omega
theorem ru (E:SE):∀ (op:Int) (nm md:List UInt8) (n:Nat) (a:Int) (bd:List (List UInt8)) (res:Bool),gY (uH E bd res op nm md n a):=fun op nm md n a bd res=>by
 have hA:∀ o,gY (Dx o n a):=fun o=>by
  unfold Dx
  split
  ·exact gY.some (by decide)
  ·split
   ·exact gY.none
   ·exact gY.some (by decide)
 unfold uH
 split
 ·exact gY.some (by decide)
 ·split
  ·unfold Gz
   split
   ·exact hA _
   ·split
    ·exact hA _
    ·exact gY.some (by decide)
  ·exact gY.none
mutual
theorem PZ.ru (E:SE)(bd:List (List UInt8))(res:Bool):∀ e:PZ,gY (e.fI E bd res)
 | .mk op nm md _ _ kids a=>by rw[PZ.fI];exact(Go.Proofs.YtknicmmigbhpcaaGreatDoor.ru E op nm md kids.length a bd res).or (zQ E op nm bd res kids 0)
theorem zQ (E:SE)(op:Int)(nm:List UInt8)(bd:List (List UInt8))(res:Bool):∀ (l:List PZ) (i:Nat),gY (gy E op nm bd res i l)
 | [],i=>by rw[gy];exact gY.none
 | e :: l,i=>by rw[gy];exact(PZ.ru E _ res e).or (zQ E op nm bd res l (i+1))
end
theorem PK (x:PZ)(IHx:∀ k∈x.kids,I7 k):I7 x:=by
 intro E C lb B im f am wn cm ae ce ab cb bd res w hL hM hf hZ hT hr hn;have hal:=(aj w (.cells (aY x.op ⟨x.name.toArray⟩ ⟨x.module.toArray⟩ (decide (x.num<0)) (.slice am wn cm) x.yes (.slice ae x.kids.length ce) x.at_) 46)).alloc (by simp) (.cells #[.slice ab bd.length cb] 114);have g0:=(Lib.alloc_old (w.alloc (.cells (aY x.op ⟨x.name.toArray⟩ ⟨x.module.toArray⟩ (decide (x.num<0)) (.slice am wn cm) x.yes (.slice ae x.kids.length ce) x.at_) 46)) (.cells #[.slice ab bd.length cb] 114) w.heap.size (by simp)).trans (heap_alloc_new w (.cells (aY x.op ⟨x.name.toArray⟩ ⟨x.module.toArray⟩ (decide (x.num<0)) (.slice am wn cm) x.yes (.slice ae x.kids.length ce) x.at_) 46));have g1:=heap_alloc_new (w.alloc (.cells (aY x.op ⟨x.name.toArray⟩ ⟨x.module.toArray⟩ (decide (x.num<0)) (.slice am wn cm) x.yes (.slice ae x.kids.length ce) x.at_) 46)) (.cells #[.slice ab bd.length cb] 114);rw[World.size_alloc] at g1;have hhd:=ru E x.op x.name x.module x.kids.length x.at_ bd res;have hdef:=x.PD E bd res;have hks:=x.Dp;have hkl:=DC x.kids
 have hcap:=fun i (hi:i<x.kids.length)=>Mr hi
 obtain⟨_,ae',ce',hv,_,hform⟩:=hZ.form;simp only[Value.slice.injEq] at hv;obtain⟨rfl,-,rfl⟩:=hv;have Zx:=hL.lt;have hL1:=hL.below hal;have hM1:=hM.keep hL (aT.of hal);have hT1:=hT.below hal;have HF:=ah hform;have HSZ:=ah hcap;have IH:=ah IHx;have zR:=ah hdef;have HR:=ah hr;have YB:=ah hf;rw[hks] at hn;clear hL hM hT hZ hr hf hform hcap IHx hdef hks
 obtain⟨R,hR⟩:∃ R,R=x.fI E bd res:=⟨_,rfl⟩
 rw[← hR] at zR ⊢;clear hR;generalize hop:x.op=op at *;generalize hnm:x.name=nm at *;generalize hmd:x.module=md at *;generalize hat:x.at_=a_ at *;generalize hkk:x.kids=ks at *;clear hop hnm hmd hat hkk;generalize decide (x.num<0)=ng at *;generalize x.yes=ys at *;have HX:=ah (fun W (hW:Below w.heap.size w W)=>hW);go_enter Tryz.func86,Tryz.ntmps86
 go_upto_block 0 with fail
 change Code.wp _ _ _ _ ((w.alloc _).alloc (.cells #[.slice ab bd.length cb] 114));generalize (w.alloc _).alloc (.cells #[.slice ab bd.length cb] 114)=w1 at *;have hz1:=hal.size;have hl1:=(bQ g1).1;have hk1:=cZ.of hal Zx;obtain⟨y0,y1,y2,y3,y4,y5,y6,y7⟩:=aG g0;obtain⟨r0,rz⟩:=bA g1;have Xf:=ah hL1;have Xg:=ah hM1;have HT1:=ah hT1;have HG:=ah (And.intro g0 g1);clear hL1 hM1 hT1 g0 g1 HX
 obtain⟨A,hA⟩:∃ A,A=(decide (op=3) && !decide (nm∈bd)):=⟨_,rfl⟩
 obtain⟨T,hTT⟩:∃ T,T=decide ((op=3∧nm ∉ bd)∨(op=4∧res=false)):=⟨_,rfl⟩
 have HA:=ah hA;have QV:=ah hTT;clear hA hTT
 obtain⟨f1,hf1⟩:∃ f1,f1=l7 f (uH E bd res op nm md ks.length a_):=⟨_,rfl⟩
 have GA:=ah hf1
 have Ms:gY f1:=by rw[hf1];exact YB.out.or hhd
 have TM:=ah Ms;clear hf1 Ms hhd
 have afV:lb<w1.heap.size:=by omega
 go_cut [] (fun wc=>kM C lb im f1 wc∧cZ lb w1 wc)
 case first =>
  go_upto_region 1 with fail
  go_cut [10] (fun v wc=>v=.bool A∧Below w1.heap.size w1 wc)
  case first =>
   have HH:=ah (Bn _ ab cb bd ⟨nm.toArray⟩ w1 HT1.out HR.out (by omega));simp only at HH
   obtain⟨m,hm⟩:∃ m,m=decide (nm∈bd):=⟨_,rfl⟩
   rw[← hm] at HH HA;clear hm
   by_cases h3:op=3
   ·have h3I:((op:Int) == 3)=true:=by simp[h3]
    have HA1:Hid (A=!m):=ah (by rw[HA.out,decide_eq_true h3];rfl);clear h3 HA;go_wp2_with (go_at_call 60;refine HH.out.mono ?_;rintro e w2 ⟨rfl,hb2⟩)
    go_meet
    exact⟨by rw[HA1.out],hb2⟩
   ·have h3I:((op:Int) == 3)=false:=by simp[h3]
    have HA1:Hid (A=false):=ah (by rw[HA.out,decide_eq_false h3];rfl);clear h3 HA HH;go_wp2
    go_meet
    exact⟨by rw[HA1.out],Below.refl _ _⟩
  case rest =>
   obtain⟨rfl,hb2⟩:=hcut
   obtain⟨w2,rfl⟩:∃ w2:World,w2=wc:=⟨_,rfl⟩
   clear y0 y1 y2 y3 y4 y5 y6 y7 r0 rz;have hz2:=hb2.size;have g0:=(hb2.block _ (by omega)).trans HG.out.1;have g1:=(hb2.block _ hl1).trans HG.out.2;have HG2:=ah (And.intro g0 g1);obtain⟨y0,y1,y2,y3,y4,y5,y6,y7⟩:=aG g0;clear g0 g1
   go_upto_if 10 with fail
   go_cut [10] (fun v wc=>v=.bool T∧w2=wc)
   case first =>
    cases A with
    | true =>
     have HT1:Hid (T=true):=ah (by
      have h1:=HA.out;rw[QV.out];simp only[Bool.true_eq,Bool.and_eq_true,decide_eq_true_eq,Bool.not_eq_true',decide_eq_false_iff_not] at h1
      exact decide_eq_true (.inl h1))
     go_wp2
     go_meet
     exact⟨by rw[HT1.out],rfl⟩
    | false =>
     have HT1:Hid (T=(decide (op=4) && !res)):=ah (by
      have h1:=HA.out;rw[QV.out]
      have h2:¬ (op=3∧nm ∉ bd):=fun q=>by rw[decide_eq_true q.1,decide_eq_false q.2] at h1;cases h1
      by_cases h4:op=4
      ·cases res<;>simp[h4,h2]
      ·simp[h4,h2])
     clear QV HA
     by_cases h4:op=4
     ·have h4I:((op:Int) == 4)=true:=by simp[h4]
      have HT2:Hid (T=!res):=ah (by rw[HT1.out,decide_eq_true h4];rfl);clear h4 HT1;go_wp2
      go_meet
      exact⟨by rw[HT2.out],rfl⟩
     ·have h4I:((op:Int) == 4)=false:=by simp[h4]
      have HT2:Hid (T=false):=ah (by rw[HT1.out,decide_eq_false h4];rfl);clear h4 HT1;go_wp2
      go_meet
      exact⟨by rw[HT2.out],rfl⟩
   case rest =>
    obtain⟨rfl,rfl⟩:=hcut;have hL2:=Xf.out.below hb2;have hM2:=Xg.out.keep Xf.out (aT.of hb2);have HL2:=ah hL2;have KI:=ah hM2;clear hL2 hM2
    go_upto_if 10 with fail
    cases T with
    | true =>
     have HE:Hid (f1=l7 f (some (31,a_))):=ah (by
      rw[GA.out,uH,if_pos (of_decide_eq_true QV.out.symm)])
     have Ra:=ah (vE C lb im f 31 a_ w2 HL2.out YB.out);clear QV HA GA;go_wp2_with (go_at_call 56;refine Ra.out.mono ?_;rintro e w3 ⟨rfl,hl3,hk3⟩)
     go_meet
     exact⟨by rw[HE.out];exact hl3,(cZ.of hb2 (by omega)).trans hk3⟩
    | false =>
     have hnT:=of_decide_eq_false QV.out.symm
     by_cases Yv:op=24
     ·have HE:Hid (f1=l7 f (Gz E nm md ks.length a_)):=ah (by
       rw[GA.out,uH,if_neg hnT,if_pos Yv])
      subst Yv;have HCA:Hid (Calls _ _ _ w2 _):=ah (TL E C lb B im f 24 nm md ng ys (.slice am wn cm) ae ks.length ce a_ w2 HL2.out KI.out YB.out);unfold aY at HCA;clear QV HA GA hnT;go_wp2_with (go_at_call 142;refine HCA.out.mono ?_;rintro e w3 ⟨rfl,hl3,hk3⟩)
      go_meet
      exact⟨by rw[HE.out];exact hl3,(cZ.of hb2 (by omega)).trans hk3⟩
     ·have afW:((op:Int) == 24)=false:=by simp[Yv]
      have HE:Hid (f1=f):=ah (by
       rw[GA.out,uH,if_neg hnT,if_neg Yv,nO])
      clear QV HA GA hnT Yv;go_wp2
      go_meet
      exact⟨by rw[HE.out];exact HL2.out,cZ.of hb2 (by omega)⟩
 case rest =>
  obtain⟨hl2,hk2⟩:=hcut
  obtain⟨w2,rfl⟩:∃ w2:World,w2=wc:=⟨_,rfl⟩
  clear y0 y1 y2 y3 y4 y5 y6 y7 r0 rz HA QV A T;have hz2:=hk2.2.1;have hM2:=Xg.out.keep Xf.out hk2.2;have QE:=HT1.out.frame hk2.2;have g0:=(hk2.2.2 w.heap.size (by omega) (by omega)).trans HG.out.1;have g1:=(hk2.2.2 (w.heap.size+1) (by omega) hl1).trans HG.out.2;have aez:aT (fun b=>b≠lb) w w2:=hk1.2.trans hk2.2;have aeA:=hk1.trans hk2;obtain⟨y0,y1,y2,y3,y4,y5,y6,y7⟩:=aG g0;have KI:=ah hM2;have HT2:=ah QE;have HG2:=ah (And.intro g0 g1);have HL2:=ah hl2
  have afX:w.heap.size+1<w2.heap.size:=by omega
  clear hM2 QE g0 g1 hl2 Xg HT1 Xf HG hk1;go_wp2
  go_loopw [8,9,42] (fun _ _ q wr=>∃ k:Nat,k≤ks.length∧q=.int .i64 k∧kM C lb im (l7 f1 (gy E op nm bd res 0 (ks.take k))) wr∧cZ lb w2 wr) (fun _ _ q _=>ks.length - (intOf q).toNat)
  case atStart=>exact⟨0,Nat.zero_le _,rfl,by rw[List.take_zero,gy,nO];exact HL2.out,cZ.refl _ _⟩
  case round =>
   obtain⟨k,hk,rfl,hlr,hkr⟩:=hrel;clear y0 y1 y2 y3 y4 y5 y6 y7;have I6:=hkr.2.1;have Bv:=ah hlr;clear hlr
   by_cases hlt:k<ks.length
   ·obtain⟨b,off,rfl,hPb,hbw,nN⟩:=HF.out (by omega)
    obtain⟨m,kv,hE,hc⟩:=nN k hlt;have har:aT (fun b=>b≠lb) w wr:=aez.trans hkr.2;obtain⟨IV,Fg,IW,Mt,Mv,rfl,rfl⟩:=hE.ZE;have hE':=hE.frame har
    have hcr:∀ (j:Nat) (u:Value),w.cell? ⟨b,off+k * 8+j,none⟩=some u→wr.cell? ⟨b,off+k * 8+j,none⟩=some u:=fun j u h=>(World.cell?_of_block (a:=⟨b,off+k * 8+j,none⟩) (har.2 b hPb hbw)).trans h
    have x0:=hcr 0 _ (hc 0 _ rfl);have x1:=hcr 1 _ (hc 1 _ rfl);have x2:=hcr 2 _ (hc 2 _ rfl);have x3:=hcr 3 _ (hc 3 _ rfl);have x4:=hcr 4 _ (hc 4 _ rfl);have x5:=hcr 5 _ (hc 5 _ rfl);have x6:=hcr 6 _ (hc 6 _ rfl);have x7:=hcr 7 _ (hc 7 _ rfl);rw[Nat.add_zero] at x0;simp only[dM] at x1 x2;have hIH:=IH.out _ (List.getElem_mem hlt);have hsz:=HSZ.out k hlt;have hsn:=I4 E op nm bd res hlt;have qm:=ah hsn;have HE:=ah hE';have HIH:=ah hIH;clear nN hE hE' hc hcr hIH hsn;generalize ks[k]=x at *
    obtain⟨fk,Pg⟩:∃ fk,fk=l7 f1 (gy E op nm bd res 0 (ks.take k)):=⟨_,rfl⟩
    have I9:gY fk:=by rw[Pg];exact TM.out.or (zQ E op nm bd res _ _)
    have Bc:Hid (l7 f1 (gy E op nm bd res 0 (ks.take (k+1)))=l7 fk (x.fI E (Mj op nm bd k) res)):=ah (by rw[qm.out,Pg,q9]);rw[← Pg] at Bv;have hMr:=KI.out.keep HL2.out hkr.2
    have HK:Hid (∀ (W:World) (ab':Option Addr) (cb':Nat) (bd':List (List UInt8)),kM C lb im fk W→aT (fun b=>b≠lb) wr W→fM (fun b=>b≠lb) W (.slice ab' bd'.length cb') bd'→bd'.Pairwise (· < ·)→bd'.length+x.size≤500000→Calls Tryz.prog 86 #[.pointer (some ⟨lb,0,none⟩),.agg #[.int .i64 x.op,.string ⟨x.name.toArray⟩,.string ⟨x.module.toArray⟩,.bool (decide (x.num<0)),.slice IV Fg IW,.bool x.yes,.slice Mt x.kids.length Mv,.int .i64 x.at_],.agg #[.slice ab' bd'.length cb'],.bool res] W (wX C lb im (l7 fk (x.fI E bd' res)) W)) :=
     ah fun W ab' cb' bd' h1 h2 h3 h4 h5=>HIH.out E C lb B im fk IV Fg IW Mt Mv ab' cb' bd' res W h1 (hMr.keep Bv.out h2) I9 (HE.out.frame h2) h3 h4 h5
    have hTr:=HT2.out.frame hkr.2;have gr0:=(hkr.2.2 w.heap.size (by omega) (by omega)).trans HG2.out.1;have gr1:=(hkr.2.2 (w.heap.size+1) (by omega) (by omega)).trans HG2.out.2;have gI:=aj wr (.cells (aY x.op ⟨x.name.toArray⟩ ⟨x.module.toArray⟩ (decide (x.num<0)) (.slice IV Fg IW) x.yes (.slice Mt x.kids.length Mv) x.at_) 46);have gk:=heap_alloc_new wr (.cells (aY x.op ⟨x.name.toArray⟩ ⟨x.module.toArray⟩ (decide (x.num<0)) (.slice IV Fg IW) x.yes (.slice Mt x.kids.length Mv) x.at_) 46)
    have pQ:(k:Int)<(ks.length:Int):=by omega
    have HTr:=ah hTr;have UO:=ah (And.intro gr0 gr1);have TN:lb<wr.heap.size:=Bv.out.lt;clear Pg I9 qm HE HIH hMr hTr gr0 gr1 har
    go_upto_region 9 with fail
    change Code.wp _ _ _ _ (wr.alloc (.cells (aY x.op ⟨x.name.toArray⟩ ⟨x.module.toArray⟩ (decide (x.num<0)) (.slice IV Fg IW) x.yes (.slice Mt x.kids.length Mv) x.at_) 46));clear x0 x1 x2 x3 x4 x5 x6 x7
    have abE:wr.heap.size<(wr.alloc (.cells (aY x.op ⟨x.name.toArray⟩ ⟨x.module.toArray⟩ (decide (x.num<0)) (.slice IV Fg IW) x.yes (.slice Mt x.kids.length Mv) x.at_) 46)).heap.size:=by simp
    generalize wr.alloc (.cells (aY x.op ⟨x.name.toArray⟩ ⟨x.module.toArray⟩ (decide (x.num<0)) (.slice IV Fg IW) x.yes (.slice Mt x.kids.length Mv) x.at_) 46)=w3 at *;have hz3:=gI.size;have hL3:=Bv.out.below gI;have g0:=(gI.block _ (by omega)).trans UO.out.1;have g1:=(gI.block _ (by omega)).trans UO.out.2;have hk3:=cZ.of gI TN;have Nn:=ah hL3;have HT3:=ah (HTr.out.below gI);obtain⟨y0,y1,y2,y3,y4,y5,y6,y7⟩:=aG g0;obtain⟨q0,qz⟩:=bA g1;obtain⟨v0,v1,v2,v3,v4,v5,v6,v7⟩:=aG gk;have HGK:=ah gk;clear hL3 g0 g1 gk UO Bv HTr
    obtain⟨bb,ac8⟩:∃ bb,decide (op=22∧k=1)=bb:=⟨_,rfl⟩
    have HBB:=ah ac8;clear ac8
    go_cut [53] (fun v wc=>v=.bool bb∧w3=wc)
    case first =>
     by_cases h22:op=22
     ·have hh:((op:Int) == 22)=true:=by simp[h22]
      by_cases hk1:k=1
      ·have hbt:Hid (bb=true):=ah (by rw[← HBB.out];exact decide_eq_true ⟨h22,hk1⟩)
       subst hk1;clear h22;go_wp2
       go_meet
       exact⟨by rw[hbt.out],rfl⟩
      ·have hbt:Hid (bb=false):=ah (by rw[← HBB.out];exact decide_eq_false (fun q=>hk1 q.2))
       have hk2:((k:Int) == 1)=false:=by simp;omega
       clear h22;go_wp2
       go_meet
       exact⟨by rw[hbt.out],rfl⟩
     ·have hh:((op:Int) == 22)=false:=by simp[h22]
      have hbt:Hid (bb=false):=ah (by rw[← HBB.out];exact decide_eq_false (fun q=>h22 q.1));clear h22;go_wp2
      go_meet
      exact⟨by rw[hbt.out],rfl⟩
    case rest =>
     obtain⟨rfl,rfl⟩:=hcut;have HKP:=ah (fun (W:World) (hW:cZ lb w3 W)=>(show cZ lb w2 W from hkr.trans (hk3.trans hW)))
     cases bb with
     | true =>
      have hin:Mj op nm bd k=fF (bd++[nm]):=by rw[Mj,if_pos (of_decide_eq_true HBB.out)]
      rw[hin] at Bc;have hsl:=qD (bd++[nm]);rw[bC,List.length_singleton] at hsl;have HW:=ah (Dy (fun _=>True) ab cb (.slice (some ⟨w3.heap.size,0,none⟩) 1 1) bd [nm] (w3.alloc (.cells #[.string ⟨nm.toArray⟩] 9)).drew (((HT3.out.below (aj w3 _)).below (Below.refl _ _).drew).imp fun _ _ _=>trivial) ((I8 w3 nm).below (Below.refl _ _).drew) (by omega) (by simp));have hb4:Below w3.heap.size w3 (w3.alloc (.cells #[.string ⟨nm.toArray⟩] 9)).drew:=(aj w3 _).drew;have hsr:=tH (bd++[nm]);have HSR:=ah hsr;clear hin hsr HBB;generalize fF (bd++[nm])=S at *
      have hn0:w.heap.size<w3.heap.size:=by omega
      have hn1:w.heap.size+1<w3.heap.size:=by omega
      have hne1:wr.heap.size≠lb:=by omega
      have hne2:w.heap.size+1≠lb:=by omega
      have PL:w.heap.size≠lb:=by omega
      have HS:Hid (∀ W,aT (fun b=>b≠lb) w3 W→((W.cell? ⟨wr.heap.size,0,none⟩=some (.int .i64 x.op)∧W.cell? ⟨wr.heap.size,1,none⟩=some (.string ⟨x.name.toArray⟩)∧W.cell? ⟨wr.heap.size,2,none⟩=some (.string ⟨x.module.toArray⟩)∧W.cell? ⟨wr.heap.size,3,none⟩=some (.bool (decide (x.num<0)))∧W.cell? ⟨wr.heap.size,4,none⟩=some (.slice IV Fg IW)∧W.cell? ⟨wr.heap.size,5,none⟩=some (.bool x.yes)∧W.cell? ⟨wr.heap.size,6,none⟩=some (.slice Mt x.kids.length Mv)∧W.cell? ⟨wr.heap.size,7,none⟩=some (.int .i64 x.at_))∧W.cell? ⟨w.heap.size+1,0,none⟩=some (.slice ab bd.length cb)∧W.cell? ⟨w.heap.size,1,none⟩=some (.string ⟨nm.toArray⟩))):=ah fun W hW=>⟨aG ((hW.2 wr.heap.size hne1 abE).trans HGK.out),(World.cell?_of_block (a:=⟨w.heap.size+1,0,none⟩) (hW.2 _ hne2 hn1)).trans q0,(World.cell?_of_block (a:=⟨w.heap.size,1,none⟩) (hW.2 _ PL hn0)).trans y1⟩
      go_upto_region 10 with fail
      go_region_held3 (fun W=>(W.cell? ⟨wr.heap.size,0,none⟩=some (.int .i64 x.op)∧W.cell? ⟨wr.heap.size,1,none⟩=some (.string ⟨x.name.toArray⟩)∧W.cell? ⟨wr.heap.size,2,none⟩=some (.string ⟨x.module.toArray⟩)∧W.cell? ⟨wr.heap.size,3,none⟩=some (.bool (decide (x.num<0)))∧W.cell? ⟨wr.heap.size,4,none⟩=some (.slice IV Fg IW)∧W.cell? ⟨wr.heap.size,5,none⟩=some (.bool x.yes)∧W.cell? ⟨wr.heap.size,6,none⟩=some (.slice Mt x.kids.length Mv)∧W.cell? ⟨wr.heap.size,7,none⟩=some (.int .i64 x.at_))∧W.cell? ⟨w.heap.size+1,0,none⟩=some (.slice ab bd.length cb)∧W.cell? ⟨w.heap.size,1,none⟩=some (.string ⟨nm.toArray⟩))
       (first|(with_reducible exact p3)|(go_keep;done))
       (first
        | (go_at_call 61;refine HW.out.mono ?_;rintro e w5 ⟨a5,c5,rfl,ht5,hb5⟩;have Mw:=hb4.trans (hb5.mono (by simp));have Z4:=HK.out w5 a5 c5 S (Nn.out.below Mw) ((aT.of gI).trans (aT.of Mw)) (ht5.imp fun q hq _=>by have:=hb4.size;omega) HSR.out (by omega);have p3:=HS.out w5 (aT.of Mw))
        | (go_at_call 86;refine Z4.mono ?_;rintro e w6 ⟨rfl,Yz,tC⟩;have p3:=HS.out w6 ((aT.of Mw).trans tC.2)))
      all_goals
       clear p3 v0 v1 v2 v3 v4 v5 v6 v7 y0 y1 y2 y3 y4 y5 y6 y7 q0 HS HK;go_wp2_with fail
       go_roundw
       case rel=>exact⟨k+1,by omega,by go_num,by rw[Bc.out];exact Yz,HKP.out _ ((cZ.of Mw (by omega)).trans tC)⟩
       case measure=>simp[intOf];omega
     | false =>
      have hin:Mj op nm bd k=bd:=by rw[Mj,if_neg (of_decide_eq_false HBB.out)]
      rw[hin] at Bc;have Z4:=ah (HK.out w3 ab cb bd Nn.out (aT.of gI) HT3.out HR.out (by omega));clear hin HBB HK;go_wp2_with (go_at_call 86;refine Z4.out.mono ?_;rintro e w4 ⟨rfl,hl4,hk4⟩)
      go_roundw
      case rel=>exact⟨k+1,by omega,by go_num,by rw[Bc.out];exact hl4,HKP.out _ hk4⟩
      case measure=>simp[intOf];omega
   ·obtain rfl:k=ks.length:=by omega
    have pQ:decide ((ks.length:Int)<(ks.length:Int))=false:=decide_eq_false (by omega);go_wp2
    go_end0
    refine⟨rfl,?_,aeA.trans hkr⟩;rw[zR.out];have:=Bv.out;rw[List.take_length,GA.out,q9] at this;exact this
mutual
theorem zS:∀ x:PZ,I7 x
 | .mk op nm md num yes kids a=>PK _ (DF kids)
theorem DF:∀ l:List PZ,∀ k∈l,I7 k
 | [],k,h=>by cases h
 | e :: l,k,h=>by
  rcases List.mem_cons.1 h with q|q
  ·rw[q];exact zS e
  ·exact DF l k q
end
theorem o9 (E:SE)(bd:List (List UInt8))(res:Bool):∀ l:List PZ,gY (bS E bd res l)
 | []=>gY.none
 | e :: l=>(PZ.ru E bd res e).or (o9 E bd res l)
theorem AQ (E:SE)(C:TJ)(lb B:Nat)(im:Value)(f:Fl)(al:Option Addr)(cl:Nat)(ks:List PZ)(ab:Option Addr)(cb:Nat)(bd:List (List UInt8))(res:Bool)(w:World)(hL:kM C lb im f w)(hM:ScM E C lb B im w)(hf:gY f)
  (hK:RowK (ZK YA) (fun b=>b≠lb) w (.slice al ks.length cl) ks) (hT:fM (fun b=>b≠lb) w (.slice ab bd.length cb) bd) (hr:bd.Pairwise (· < ·)) (hn:∀ e∈ks,bd.length+e.size≤500000) (hkl:ks.length≤1000000) :
  Calls Tryz.prog 85 #[.pointer (some ⟨lb,0,none⟩),.slice al ks.length cl,.agg #[.slice ab bd.length cb],.bool res] w (wX C lb im (l7 f (bS E bd res ks)) w):=by
 have hal:=aj w (.cells #[.slice ab bd.length cb] 114);have g1:=heap_alloc_new w (.cells #[.slice ab bd.length cb] 114);obtain⟨ae',ce',hv,_,hform⟩:=hK.form;simp only[Value.slice.injEq] at hv;obtain⟨rfl,-,rfl⟩:=hv;have Zx:=hL.lt;have hL1:=hL.below hal;have hM1:=hM.keep hL (aT.of hal);have hT1:=hT.below hal;have HF:=ah hform;have HSZ:=ah hn;have YB:=ah hf;have HR:=ah hr;clear hL hM hT hr hf hform hn hK
 obtain⟨R,hR⟩:∃ R,R=l7 f (bS E bd res ks):=⟨_,rfl⟩
 rw[← hR];have zR:=ah hR;clear hR;go_enter Tryz.func85,Tryz.ntmps85
 go_upto_region 1 with fail
 change Code.wp _ _ _ _ (w.alloc (.cells #[.slice ab bd.length cb] 114));generalize w.alloc (.cells #[.slice ab bd.length cb] 114)=w1 at *;have hz1:=hal.size;have hl1:=(bQ g1).1;have hk1:=cZ.of hal Zx;have Xf:=ah hL1;have Xg:=ah hM1;have HT1:=ah hT1;have HG1:=ah g1;have aeB:aT (fun b=>b≠lb) w w1:=aT.of hal;clear hL1 hM1 hT1 g1;go_wp2
 go_loopw [9,12] (fun _ q wr=>∃ k:Nat,k≤ks.length∧q=.int .i64 k∧kM C lb im (l7 f (bS E bd res (ks.take k))) wr∧cZ lb w1 wr) (fun _ q _=>ks.length - (intOf q).toNat)
 case atStart=>exact⟨0,Nat.zero_le _,rfl,by rw[List.take_zero,bS,nO];exact Xf.out,cZ.refl _ _⟩
 case round =>
  obtain⟨k,hk,rfl,hlr,hkr⟩:=hrel;have I6:=hkr.2.1;have Bv:=ah hlr;clear hlr
  by_cases hlt:k<ks.length
  ·obtain⟨b,off,rfl,hPb,hbw,nN⟩:=HF.out (by omega)
   obtain⟨⟨m,kv⟩,hE,hc⟩:=nN k hlt;have har:aT (fun b=>b≠lb) w wr:=aeB.trans hkr.2;obtain⟨IV,Fg,IW,Mt,Mv,rfl,rfl⟩:=nM.ZE hE;have hE':=nM.frame har hE
   have hcr:∀ (j:Nat) (u:Value),w.cell? ⟨b,off+k * 8+j,none⟩=some u→wr.cell? ⟨b,off+k * 8+j,none⟩=some u:=fun j u h=>(World.cell?_of_block (a:=⟨b,off+k * 8+j,none⟩) (har.2 b hPb hbw)).trans h
   have x0:=hcr 0 _ (hc 0 _ rfl);have x1:=hcr 1 _ (hc 1 _ rfl);have x2:=hcr 2 _ (hc 2 _ rfl);have x3:=hcr 3 _ (hc 3 _ rfl);have x4:=hcr 4 _ (hc 4 _ rfl);have x5:=hcr 5 _ (hc 5 _ rfl);have x6:=hcr 6 _ (hc 6 _ rfl);have x7:=hcr 7 _ (hc 7 _ rfl);rw[Nat.add_zero] at x0;simp only[dM] at x1 x2;have hsz:=HSZ.out _ (List.getElem_mem hlt);have qm:=ah (Fj E bd res hlt);have HE:=ah hE';clear nN hE hE' hc hcr;generalize ks[k]=x at *
   obtain⟨fk,Pg⟩:∃ fk,fk=l7 f (bS E bd res (ks.take k)):=⟨_,rfl⟩
   have I9:gY fk:=by rw[Pg];exact YB.out.or (o9 E bd res _)
   have Bc:Hid (l7 f (bS E bd res (ks.take (k+1)))=l7 fk (x.fI E bd res)):=ah (by rw[qm.out,Pg,q9]);rw[← Pg] at Bv;have hMr:=Xg.out.keep Xf.out hkr.2
   have HK:Hid (∀ (W:World),kM C lb im fk W→aT (fun b=>b≠lb) wr W→fM (fun b=>b≠lb) W (.slice ab bd.length cb) bd→Calls Tryz.prog 86 #[.pointer (some ⟨lb,0,none⟩),.agg #[.int .i64 x.op,.string ⟨x.name.toArray⟩,.string ⟨x.module.toArray⟩,.bool (decide (x.num<0)),.slice IV Fg IW,.bool x.yes,.slice Mt x.kids.length Mv,.int .i64 x.at_],.agg #[.slice ab bd.length cb],.bool res] W (wX C lb im (l7 fk (x.fI E bd res)) W)) :=
    ah fun W h1 h2 h3=>zS x E C lb B im fk IV Fg IW Mt Mv ab cb bd res W h1 (hMr.keep Bv.out h2) I9 (nM.frame h2 HE.out) h3 HR.out hsz
   have hTr:=HT1.out.frame hkr.2;have gr1:=(hkr.2.2 w.heap.size (by omega) hl1).trans HG1.out;have gI:=aj wr (.cells (aY x.op ⟨x.name.toArray⟩ ⟨x.module.toArray⟩ (decide (x.num<0)) (.slice IV Fg IW) x.yes (.slice Mt x.kids.length Mv) x.at_) 46);have gk:=heap_alloc_new wr (.cells (aY x.op ⟨x.name.toArray⟩ ⟨x.module.toArray⟩ (decide (x.num<0)) (.slice IV Fg IW) x.yes (.slice Mt x.kids.length Mv) x.at_) 46)
   have pQ:(k:Int)<(ks.length:Int):=by omega
   have TN:lb<wr.heap.size:=Bv.out.lt;have Z4:=ah (HK.out (wr.alloc (.cells (aY x.op ⟨x.name.toArray⟩ ⟨x.module.toArray⟩ (decide (x.num<0)) (.slice IV Fg IW) x.yes (.slice Mt x.kids.length Mv) x.at_) 46)) (Bv.out.below gI) (aT.of gI) (hTr.below gI));have g1:=(gI.block _ (by omega)).trans gr1;have hkF:=hkr.trans (cZ.of gI TN);clear Pg I9 qm HE hMr hTr gr1 har HK
   go_upto_region 4 with fail
   change Code.wp _ _ _ _ (wr.alloc (.cells (aY x.op ⟨x.name.toArray⟩ ⟨x.module.toArray⟩ (decide (x.num<0)) (.slice IV Fg IW) x.yes (.slice Mt x.kids.length Mv) x.at_) 46));clear x0 x1 x2 x3 x4 x5 x6 x7;generalize wr.alloc (.cells (aY x.op ⟨x.name.toArray⟩ ⟨x.module.toArray⟩ (decide (x.num<0)) (.slice IV Fg IW) x.yes (.slice Mt x.kids.length Mv) x.at_) 46)=w3 at *;obtain⟨q0,qz⟩:=bA g1;obtain⟨v0,v1,v2,v3,v4,v5,v6,v7⟩:=aG gk;clear g1 gk Bv;go_wp2_with (go_at_call 86;refine Z4.out.mono ?_;rintro e w4 ⟨rfl,hl4,hk4⟩)
   go_roundw
   case rel=>exact⟨k+1,by omega,by go_num,by rw[Bc.out];exact hl4,hkF.trans hk4⟩
   case measure=>simp[intOf];omega
  ·obtain rfl:k=ks.length:=by omega
   have pQ:decide ((ks.length:Int)<(ks.length:Int))=false:=decide_eq_false (by omega);go_wp2
   go_end0
   refine⟨rfl,?_,hk1.trans hkr⟩;rw[zR.out];have:=Bv.out;rw[List.take_length] at this;exact this
end Go.Proofs.YtknicmmigbhpcaaGreatDoor
