/- Walks and plain laws, without a condition. -/
import Derived.Test.YtmleecdnkmoohaaGreatDoorK16
import Derived.IntWalk
import Derived.Deep.RegionHeldLaw
set_option maxHeartbeats 16000000
set_option maxRecDepth 100000
set_option linter.unusedVariables false
set_option linter.unusedSimpArgs false
namespace Go.Proofs.YtmleecdnkmoohaaGreatDoor
open Go.RowKit Go
variable{aj:List Nd}{ah:List Tok}{B C e b:Nat}{S nm:aH}{p:l6}{w' w:World}{v:Value}{P:Nat->Prop}{ks:List PZ}{l:List ZD}{d:ZD}{ml:ML}
theorem Tryz.J3:(Tryz.prog.info? 103).map (λi=>(i.zero,i.size,i.bytes))=some (some (.agg #[.string ⟨#[]⟩,.int .i64 0,.slice none 0 0,.int .i64 0,.int .i64 0]),5,64):=by kernel_rfl
theorem Tryz.OU:∀ args w,(callFunc 115 args).run Tryz.prog w=.ok (.enter 115 args) w:=Go.Proofs.enters_of Tryz.func115 (by kernel_rfl) rfl
def ZV (d:DD)(w:World)(e:Ending)(w':World):Prop :=
 ∃ ap cp ac cc am wn cm ae ce,e=.returned (.agg #[.bool d.pub,.string ⟨d.res.name.toArray⟩,.slice ap d.params.length cp,.int .i64 d.res.base,.slice ac d.res.aC.length cc,.int .i64 d.body.op,.string ⟨d.body.name.toArray⟩,.string ⟨d.body.module.toArray⟩,.bool (decide (d.body.num<0)),.slice am wn cm,.bool d.body.yes,.slice ae d.body.aB.length ce,.int .i64 d.body.at_,.int .i64 d.res.at_,.int .i64 d.res.bare]) /\
  DA.inn (λb=>w.heap.size<=b) w' d ⟨.slice ap d.params.length cp,.slice ac d.res.aC.length cc,.slice am wn cm,.slice ae d.body.aB.length ce⟩/\Below w.heap.size w w'
def GK (pb:Bool)(nm:aH)(pv:Value)(base:Nat)(cv:Value)(at_:Nat)(bare:Int):Array Value :=
 #[.bool pb,.string ⟨nm.toArray⟩,pv,.int .i64 base,cv,.int .i64 0,.string ⟨#[]⟩,.string ⟨#[]⟩,.bool false,.slice none 0 0,.bool false,.slice none 0 0,.int .i64 0,.int .i64 at_,.int .i64 bare]
theorem ZW {tv nv:Value}(E:RdE B tv nv ah aj)(d:dV)(u:Nat)(ho:d.ok ah u)(hl:u+d.pt.lv<=ah.length)(i:Nat)(w:World)(hr:oH aj i u d.pt)(h:bJ B w (.agg #[tv,nv]) ah aj)(hB:B<=w.heap.size) :
  Calls Tryz.prog 69 #[.agg #[tv,nv],.int .i64 i] w (ZV (d.dd ah u) w):=by
 obtain⟨ip,aeG,aeH,aeI,aeJ⟩:=info_parts Tryz.J3;have ent:=Tryz.OU;rw[d.Gn] at hr hl;obtain⟨ks,hn,hk⟩:=fD hr
 have hlv:u+bU (d.its.map It.pt)<=ah.length:=by rw[PT.lv] at hl;exact hl
 have K:=ZU ho hlv hk
 obtain⟨k0,hq0,hl0,hu0⟩:=K.first
 obtain⟨k1,hq1,hl1,hu1⟩:=K.name;obtain⟨k2,hq2,hr2,hu2⟩:=K.body;have aiQ:=K.many;have ahZ:=K.pub;have hks:=E.few _ (List.mem_of_getElem? hn)
 obtain⟨a,ha1,ha2,ha3,V8⟩:∃ a:Zy,(d.dd ah u).res.base=a.base/\(d.dd ah u).res.aC=a.aC/\(d.dd ah u).res.bare=a.bare/\Hid (∀ W,bJ B W (.agg #[tv,nv]) ah aj->B<=W.heap.size->Calls Tryz.prog 114 #[.agg #[tv,nv],.int .i64 i] W (LJ a W)):=⟨⟨_,_,_⟩,rfl,rfl,rfl,ay (λW hT hW=>acW E d u ho ks hlv i hn hk W hT hW)⟩
 have hdd:d.dd ah u=⟨d.pub,gI ah u d.its,⟨(dx ah (d.FE u+1)).text,a.base,a.aC,(dx ah (d.FE u+1)).place,a.bare⟩,d.body.pe ah (d.at3 u)⟩:=by
  rw[<- ha1,<- ha2,<- ha3,d.Zz];rfl
 rw[hdd];clear hdd ha1 ha2 ha3
 obtain⟨lX,ZX⟩:∃ lX,lX=gI ah u d.its:=⟨_,rfl⟩
 rw[<- ZX];have HPS:=ay ZX;clear ZX;have TJ:Hid (∀ W,bJ B W (.agg #[tv,nv]) ah aj->B<=W.heap.size->Calls Tryz.prog 116 #[.agg #[tv,nv],.int .i64 k2] W (Yp (d.body.pe ah (d.at3 u)) W)):=ay (λW hT hW=>(E.exprs false d.body (d.at3 u) ho.2.2.2.2.2.2 hu2 k2 W hr2 hT hW).mono λ_ _ h=>h.s)
 have agK:Hid (∀ (t:gQ) (v:Nat),(It.par t,v)∈dW u d.its->∀ (m:Nat) (W:World),oH aj m v t.par->bJ B W (.agg #[tv,nv]) ah aj->B<=W.heap.size->Calls Tryz.prog 115 #[.agg #[tv,nv],.int .i64 m] W (Si (t.wM ah v) W)):=ay (λt v hm m W hrm hT hW=>by
  have hend:=ug _ _ _ hm
  exact Sn E t v (aeF ho hm) (by simp only[It.pt] at hend;omega) m W hrm hT hW)
 have AP:Hid (∀ W,bJ B W (.agg #[tv,nv]) ah aj->B<=W.heap.size->Calls Tryz.prog 68 #[.agg #[tv,nv],.int .i64 k1] W λe w'=>e=.returned (qw (dx ah (d.FE u+1)))/\Below W.heap.size W w'):=ay (λW hT hW=>by
  have:=kP B tv nv ah aj k1 (d.FE u+1) W hT hW hl1 hu1;have e:=jL hu1;rw[AY hu1] at e;rw[lG e] at this
  exact this)
 have La:Hid (∀ W,bJ B W (.agg #[tv,nv]) ah aj->B<=W.heap.size->Calls Tryz.prog 113 #[.agg #[tv,nv],.int .i64 k0] W λe w'=>e=.returned (.string (if d.pub=true then ⟨#[112,117,98]⟩ else ⟨#[102,117,110]⟩))/\Below W.heap.size W w'):=ay (λW hT hW=>by
  have:=xG B tv nv ah aj k0 u W hT hW hl0 hu0;have e:=jL hu0;rw[AY hu0] at e;rw[lG e] at this
  have e2:(dx ah u).text=if d.pub=true then Bt else Ir:=by
   cases hd:d.pub with
   | true=>exact ho.1 hd
   | false =>
    have h1:=ho.2.1;unfold dV.FE dV.lead at h1;rw[hd] at h1;simp only[Bool.false_eq_true,if_false,bU,nZ] at h1;exact h1
  rw[e2] at this;unfold fC at this
  cases hd:d.pub<;>(rw[hd] at this;exact this))
 obtain⟨hlk,hrp⟩:=AL _ _ _ hk;have HRP:=ay hrp;have HLK:Hid (ks.length=(dW u d.its).length):=ay (by rw[uf];exact hlk);have HRD:=ay (GA ah d.its u)
 have hpl:(gI ah u d.its).length<=1000000:=by
  have:=GD ah d.its u;simp only at hks;omega
 have HIT:=ay (show d.its.length=ks.length from hlk.symm);generalize d.body.pe ah (d.at3 u)=x at TJ |-;generalize hpb:d.pub=pb at hq1 La |-;generalize hqq:(if pb=true then 2 else 1)=q at hq1;have HQ:=ay hqq;unfold qw fC at AP;generalize dx ah (d.FE u+1)=t at AP |-;obtain⟨tk,tl,tt,tp⟩:=t;simp only at AP |-;have HT:=ay h;obtain⟨hi,hni⟩:=pE hn;obtain⟨a1,c1,_,_,e⟩:=h.slices;obtain⟨b,off,cap,kv,rfl,hb,y0,y1,y2,hkv⟩:=h.node hi
 obtain⟨rfl,-⟩:tv=.slice a1 ah.length c1/\_:=by simpa using e
 rw[hni] at hkv;simp only at hkv;obtain⟨ak,ck,rfl,_,yE⟩:=hkv.form;obtain⟨bk,ok,rfl,hbk,hkc⟩:=yE (by omega);obtain⟨ah0,adv⟩:=pE hq0;obtain⟨ah1,adw⟩:=pE hq1;obtain⟨ah2,adx⟩:=pE hq2;have z0:=hkc 0 ah0;have z1:=hkc q ah1;have z2:=hkc (ks.length - 2) ah2;rw[adv,nZ] at z0;rw[adw] at z1;rw[adx] at z2;have Xh:=ay hkc;have cO:=((bQ w.heap.size w).alloc (bD _) (.cells #[.slice a1 ah.length c1,.slice (some ⟨b,off,none⟩) aj.length cap] 154)).alloc (by simp) (.cells #[.bool false,.string ⟨#[]⟩,.slice none 0 0,.int .i64 0,.slice none 0 0,.int .i64 0,.string ⟨#[]⟩,.string ⟨#[]⟩,.bool false,.slice none 0 0,.bool false,.slice none 0 0,.int .i64 0,.int .i64 0,.int .i64 0] 62);have g0:=(gZ _ (.cells #[.bool false,.string ⟨#[]⟩,.slice none 0 0,.int .i64 0,.slice none 0 0,.int .i64 0,.string ⟨#[]⟩,.string ⟨#[]⟩,.bool false,.slice none 0 0,.bool false,.slice none 0 0,.int .i64 0,.int .i64 0,.int .i64 0] 62) w.heap.size (by simp)).trans (aX w (.cells #[.slice a1 ah.length c1,.slice (some ⟨b,off,none⟩) aj.length cap] 154));have g1:=aX (w.alloc (.cells #[.slice a1 ah.length c1,.slice (some ⟨b,off,none⟩) aj.length cap] 154)) (.cells #[.bool false,.string ⟨#[]⟩,.slice none 0 0,.int .i64 0,.slice none 0 0,.int .i64 0,.string ⟨#[]⟩,.string ⟨#[]⟩,.bool false,.slice none 0 0,.bool false,.slice none 0 0,.int .i64 0,.int .i64 0,.int .i64 0] 62);rw[nG] at g1;have Y2:=jo cO y2;have Z0:=jo cO z0;have Z1:=jo cO z1;have Z2:=jo cO z2
 have hiI:(i:Int)<(aj.length:Int):=by omega
 have ajp:(0:Int)<(ks.length:Int):=by omega
 have ajq:(q:Int)<(ks.length:Int):=by omega
 clear h e y0 y1 y2 z0 z1 z2 hkv yE hkc hn hni hlk hrp hk hr hlv hl ho hq0 hq1 hq2 adv adw adx hl0 hl1 hr2 hu0 hu1 hu2 ahZ K E hpb hqq;go_enter Tryz.func69,Tryz.ntmps69;obtain⟨r0,r1⟩:=lY g0
 go_upto_region 2 with (fail)
 generalize (w.alloc _).alloc _=w2 at g0 g1 cO Y2 Z0 Z1 Z2 r0 r1 |-;have hz2:=cO.size;have hlt2:w.heap.size+1<w2.heap.size:=(bP g1).1
 have hne0:w.heap.size≠w2.heap.size:=by omega
 have hne1:bk≠w2.heap.size:=by omega
 have Xn:=ay (λW (hb:Below w2.heap.size w2 W)=>(La.out W (HT.out.below ((cO.trans (hb.mono hz2)).mono hB)) (by have:=hb.size;omega)).mono (R':=λe w'=>e=.returned (.string (if pb=true then ⟨#[112,117,98]⟩ else ⟨#[102,117,110]⟩))/\Below w2.heap.size w2 w'/\Below W.heap.size W w') λe w' h=>⟨h.1,hb.trans (h.2.mono hb.size),h.2⟩)
 go_cut [6] (λp wc=>∃ X:Nat,p=.pointer (some ⟨X,0,none⟩)/\wc.heap[X]?=some (.cells (GK pb [] (.slice none 0 0) 0 (.slice none 0 0) 0 0) 62 (0,0))/\Below w2.heap.size w2 wc/\w2.heap.size<=X)
 case first =>
  cases pb with
  | true =>
   simp only[if_true] at Xn
   go_region_held3 (λw'=>w'.cell? ⟨w.heap.size,0,none⟩=some (.slice a1 ah.length c1)/\w'.cell? ⟨w.heap.size,1,none⟩=some (.slice (some ⟨b,off,none⟩) aj.length cap)/\w'.cell? ⟨bk,ok,none⟩=some (.int .i64 k0))
    (first|(with_reducible exact p3)|((try dsimp only);with_reducible exact gy ((pq w3 w2.heap.size _ _ _ _ _ _ _ _ _ _ _ _ _ _ _ hne0).trans p3.1) (gy ((pq w3 w2.heap.size _ _ _ _ _ _ _ _ _ _ _ _ _ _ _ hne0).trans p3.2.1) ((pq w3 w2.heap.size _ _ _ _ _ _ _ _ _ _ _ _ _ _ _ hne1).trans p3.2.2)))|(go_keep;done))
    (first|(go_at_call 113;refine(Xn.out _ ?_).mono ?_;(first|exact(bQ _ _).drew|exact((bQ _ _).alloc (bD _) _).drew);rintro e w3 ⟨rfl,hq3,hb3⟩;have p3:=gy (jo hq3 r0) (gy (jo hq3 r1) (jo hq3 Z0));try (have Gs:=(hb3.block w2.heap.size (by simp)).trans (aX w2 (.cells #[.bool false,.string ⟨#[]⟩,.slice none 0 0,.int .i64 0,.slice none 0 0,.int .i64 0,.string ⟨#[]⟩,.string ⟨#[]⟩,.bool false,.slice none 0 0,.bool false,.slice none 0 0,.int .i64 0,.int .i64 0,.int .i64 0] 62));obtain⟨⟨e0,e1,e2,e3,e4⟩,⟨e5,e6,e7,e8,e9⟩,⟨e10,e11,e12,e13,e14⟩,ez⟩:=dL Gs)))
   ·clear r0 r1 Z0 p3
    go_wp2_with fail
    go_meet
    exact⟨w3.heap.size,rfl,aX _ _,hq3.alloc hq3.size _,hq3.size⟩
   ·clear r0 r1 Z0 p3
    go_wp2_with fail
    go_meet
    exact⟨w2.heap.size,rfl,GJ Gs _ _ _ _ _ _ _ _ _ _ _ _ _ _ _,wZ hq3 (bD _) _ _ _ _ _ _ _ _ _ _ _ _ _ _ _,bD _⟩
  | false =>
   simp only[Bool.false_eq_true,if_false] at Xn
   go_region_held3 (λw'=>w'.cell? ⟨w.heap.size,0,none⟩=some (.slice a1 ah.length c1)/\w'.cell? ⟨w.heap.size,1,none⟩=some (.slice (some ⟨b,off,none⟩) aj.length cap)/\w'.cell? ⟨bk,ok,none⟩=some (.int .i64 k0))
    (first|(with_reducible exact p3)|((try dsimp only);with_reducible exact gy ((pq w3 w2.heap.size _ _ _ _ _ _ _ _ _ _ _ _ _ _ _ hne0).trans p3.1) (gy ((pq w3 w2.heap.size _ _ _ _ _ _ _ _ _ _ _ _ _ _ _ hne0).trans p3.2.1) ((pq w3 w2.heap.size _ _ _ _ _ _ _ _ _ _ _ _ _ _ _ hne1).trans p3.2.2)))|(go_keep;done))
    (first|(go_at_call 113;refine(Xn.out _ ?_).mono ?_;(first|exact(bQ _ _).drew|exact((bQ _ _).alloc (bD _) _).drew);rintro e w3 ⟨rfl,hq3,hb3⟩;have p3:=gy (jo hq3 r0) (gy (jo hq3 r1) (jo hq3 Z0));try (have Gs:=(hb3.block w2.heap.size (by simp)).trans (aX w2 (.cells #[.bool false,.string ⟨#[]⟩,.slice none 0 0,.int .i64 0,.slice none 0 0,.int .i64 0,.string ⟨#[]⟩,.string ⟨#[]⟩,.bool false,.slice none 0 0,.bool false,.slice none 0 0,.int .i64 0,.int .i64 0,.int .i64 0] 62));obtain⟨⟨e0,e1,e2,e3,e4⟩,⟨e5,e6,e7,e8,e9⟩,⟨e10,e11,e12,e13,e14⟩,ez⟩:=dL Gs)))
   ·clear r0 r1 Z0 p3
    go_wp2_with fail
    go_meet
    exact⟨w3.heap.size,rfl,aX _ _,hq3.alloc hq3.size _,hq3.size⟩
   ·clear r0 r1 Z0 p3
    go_wp2_with fail
    go_meet
    exact⟨w2.heap.size,rfl,GJ Gs _ _ _ _ _ _ _ _ _ _ _ _ _ _ _,wZ hq3 (bD _) _ _ _ _ _ _ _ _ _ _ _ _ _ _ _,bD _⟩
 case rest =>
  obtain⟨X,rfl,hX,hbc,hXl⟩:=hcut
  obtain⟨w4,rfl⟩:∃ w4:World,w4=wc:=⟨_,rfl⟩
  have hX4:=(bP hX).1;have G0:=(hbc.block w.heap.size (by omega)).trans g0;have G1:=(hbc.block (w.heap.size+1) hlt2).trans g1;have hb4:Below w.heap.size w w4:=cO.trans (hbc.mono hz2);have BJ:=hbc.size;have Z1':=jo hbc Z1;obtain⟨⟨d0,d1,d2,d3,d4⟩,⟨d5,d6,d7,d8,d9⟩,⟨Xo,Xp,Xq,Xr,Xt⟩,dz⟩:=dL hX;clear Z0 Z1 r0 r1 Xn
  go_upto_if 26 with fail
  go_cut [7] (λv wc=>v=.int .i64 q/\wc=w4)
  case first =>
   cases pb
   all_goals
    have hq:=HQ.out;simp only[if_true,Bool.false_eq_true,if_false] at hq;subst hq;go_wp2
    go_meet
    exact⟨rfl,rfl⟩
  case rest =>
   obtain⟨rfl,rfl⟩:=hcut
   obtain⟨w4,rfl⟩:∃ w4:World,w4=wc:=⟨_,rfl⟩
   obtain⟨r0,r1⟩:=lY G0;have ZE:=ay (λW (hb:Below w4.heap.size w4 W)=>(AP.out W (HT.out.below ((hb4.trans (hb.mono hb4.size)).mono hB)) (by have:=hb4.size;have:=hb.size;omega)).mono (R':=λe w'=>e=.returned (.agg #[.int .i64 tk,.string ⟨tl.toArray⟩,.string ⟨tt.toArray⟩,.int .i64 tp])/\Below w4.heap.size w4 w'/\Below W.heap.size W w') λe w' h=>⟨h.1,hb.trans (h.2.mono hb.size),h.2⟩);clear d0 d1 d2 d3 d4 d5 d6 d7 d8 d9 Xo Xp Xq Xr Xt dz
   go_upto_region 6 with fail
   go_cut [8] (λp wc=>∃ Y:Nat,p=.pointer (some ⟨Y,0,none⟩)/\wc.heap[Y]?=some (.cells #[.int .i64 tk,.string ⟨tl.toArray⟩,.string ⟨tt.toArray⟩,.int .i64 tp] 159 (0,0))/\Below w4.heap.size w4 wc)
   case first =>
    go_region_held3 (λw'=>w'.cell? ⟨w.heap.size,0,none⟩=some (.slice a1 ah.length c1)/\w'.cell? ⟨w.heap.size,1,none⟩=some (.slice (some ⟨b,off,none⟩) aj.length cap)/\w'.cell? ⟨bk,ok+q,none⟩=some (.int .i64 k1))
     (first|go_keep|exact p3|exact⟨(bW w3 w4.heap.size _ _ _ _ (by omega)).trans p3.1,(bW w3 w4.heap.size _ _ _ _ (by omega)).trans p3.2.1,(bW w3 w4.heap.size _ _ _ _ (by omega)).trans p3.2.2⟩)
     (first|(go_at_call 68;refine(ZE.out _ ?_).mono ?_;(first|exact(bQ _ _).drew|exact((bQ _ _).alloc (bD _) _).drew);rintro e w3 ⟨rfl,hq3,hb3⟩;have p3:=gy (jo hq3 r0) (gy (jo hq3 r1) (jo hq3 Z1'));try (have Gs:=(hb3.block w4.heap.size (by simp)).trans (aX w4 (.cells #[.int .i64 0,.string ⟨#[]⟩,.string ⟨#[]⟩,.int .i64 0] 159));obtain⟨ZG,ZH,ZI,ZJ,ZL⟩:=o9 Gs)))
    ·clear r0 r1 Z1' p3
     go_wp2_with fail
     go_meet
     exact⟨w3.heap.size,rfl,aX _ _,hq3.alloc hq3.size _⟩
    ·obtain⟨S3,So,_⟩:=za Gs (.int .i64 tk) (.string ⟨tl.toArray⟩) (.string ⟨tt.toArray⟩) (.int .i64 tp)
     clear r0 r1 Z1' p3 ZG ZH ZI ZJ ZL;go_wp2_with fail
     go_meet
     exact⟨w4.heap.size,rfl,S3,(((hq3.setCell (bD _) _).setCell (bD _) _).setCell (bD _) _).setCell (bD _) _⟩
   case rest =>
    obtain⟨Y,rfl,hY,acY⟩:=hcut
    obtain⟨w5,rfl⟩:∃ w5:World,w5=wc:=⟨_,rfl⟩
    have hX5:=(acY.block X hX4).trans hX;have hb5:Below w2.heap.size w2 w5:=hbc.trans (acY.mono BJ);have ajr:X<w5.heap.size:=xw hX4 acY.size;obtain⟨f2,f3⟩:=uV hY;obtain⟨⟨d0,d1,d2,d3,d4⟩,⟨d5,d6,d7,d8,d9⟩,⟨Xo,Xp,Xq,Xr,Xt⟩,dz⟩:=dL hX5;clear hX hbc acY Z1' r0 r1 ZE hb4 G0 G1 hY
    go_upto_region 7 with fail
    go_cut [] (λwc=>wc.heap[X]?=some (.cells (GK pb tt (.slice none 0 0) 0 (.slice none 0 0) tp 0) 62 (0,0))/\Below w2.heap.size w2 wc)
    case first =>
     go_region
     all_goals
      go_wp2_with fail
      go_meet
      have T1:=jN w5 X 1 _ _ (.string ⟨tt.toArray⟩) hX5;have T2:=jN _ X 13 _ _ (.int .i64 tp) T1;exact⟨T2,((hb5.setCell hXl _).setCell hXl _).drew⟩
    case rest =>
     obtain⟨hX6,hb6⟩:=hcut
     obtain⟨w6,rfl⟩:∃ w6:World,w6=wc:=⟨_,rfl⟩
     have hz6:=hb6.size;have ah3:=(bP hX6).1;have Ww:Below w.heap.size w w6:=cO.trans (hb6.mono hz2);have G0:=(hb6.block w.heap.size (by omega)).trans g0;obtain⟨r0,r1⟩:=lY G0;have HAW:=ay (V8.out w6 (HT.out.below (Ww.mono hB)) (jq hB Ww.size));clear d0 d1 d2 d3 d4 d5 d6 d7 d8 d9 Xo Xp Xq Xr Xt dz f2 f3 hX5 hb5 V8;go_wp2_with (go_at_call 114;refine HAW.out.mono ?_);rintro e w7 ⟨ao,cc,rfl,hrow,Ad⟩;have hX7:=(Ad.block X ah3).trans hX6;obtain⟨⟨d0,d1,d2,d3,d4⟩,⟨d5,d6,d7,d8,d9⟩,⟨Xo,Xp,Xq,Xr,Xt⟩,dz⟩:=dL hX7;clear r0 r1 HAW
     go_upto_region 9 with fail
     have T1:=jN w7 X 3 _ _ (.int .i64 a.base) hX7;have T2:=jN _ X 4 _ _ (.slice ao a.aC.length cc) T1;have T3:=jN _ X 14 _ _ (.int .i64 a.bare) T2;have hX8:(((w7.setCell ⟨X,3,none⟩ (.int .i64 a.base)).setCell ⟨X,4,none⟩ (.slice ao a.aC.length cc)).setCell ⟨X,14,none⟩ (.int .i64 a.bare)).heap[X]?=some (.cells (GK pb tt (.slice none 0 0) a.base (.slice ao a.aC.length cc) tp a.bare) 62 (0,0)):=T3;have agL:Below w2.heap.size w2 w7:=hb6.trans (Ad.mono hz6);have nE:Below w2.heap.size w2 (((w7.setCell ⟨X,3,none⟩ (.int .i64 a.base)).setCell ⟨X,4,none⟩ (.slice ao a.aC.length cc)).setCell ⟨X,14,none⟩ (.int .i64 a.bare)):=((agL.setCell hXl _).setCell hXl _).setCell hXl _
     have hs:∀ (W:World) (j:Nat) (v:Value),aW (λb=>w6.heap.size<=b) W (W.setCell ⟨X,j,none⟩ v):=λW j v=>aW.set v λb hb=>by show b≠X;omega
     have ZY:=hrow.frame (((hs w7 3 (.int .i64 a.base)).trans (hs _ 4 (.slice ao a.aC.length cc))).trans (hs _ 14 (.int .i64 a.bare)))
     have hz8:w6.heap.size<=(((w7.setCell ⟨X,3,none⟩ (.int .i64 a.base)).setCell ⟨X,4,none⟩ (.slice ao a.aC.length cc)).setCell ⟨X,14,none⟩ (.int .i64 a.bare)).heap.size:=by simpa using Ad.size
     clear T1 T2 T3 hX7 hX6 hb6 Ad agL hs hrow d0 d1 d2 d3 d4 d5 d6 d7 d8 d9 Xo Xp Xq Xr Xt dz G0 Ww;generalize ((w7.setCell _ _).setCell _ _).setCell _ _=wl at hX8 nE ZY hz8 |-
     have ah4:X<wl.heap.size:=by omega
     have hzl:=nE.size;have G0:=(nE.block w.heap.size (by omega)).trans g0;have G1:=(nE.block (w.heap.size+1) hlt2).trans g1;go_wp2
     go_loopw [51] (λq' wr=>∃ (j n:Nat) (ap:Option Addr) (cp:Nat),j<=ks.length/\n=(gI ah u (d.its.take j)).length/\q'=.int .i64 j/\aW (λb=>b<wl.heap.size/\b≠X) wl wr/\wr.heap[X]?=some (.cells (GK pb tt (.slice ap n cp) a.base (.slice ao a.aC.length cc) tp a.bare) 62 (0,0))/\og (FK XA) wl.heap.size 103 wr (.slice ap n cp) (gI ah u (d.its.take j))/\Below w2.heap.size w2 wr) (λq' _=>ks.length - (intOf q').toNat)
     case atStart=>exact⟨0,0,none,0,kJ _,by rw[List.take_zero,gI];rfl,rfl,aW.refl _ _,hX8,by rw[List.take_zero,gI];exact og.nil _ _ _ _,nE⟩
     case round =>
      obtain⟨j,n,ap,cp,hj,hn,rfl,dD,hXr,hrow,hbl⟩:=hrel;have aeK:=dD.1;have hr0:=(dD.2 w.heap.size ⟨by omega,by omega⟩ (by omega)).trans G0;have GL:Below w.heap.size w wr:=cO.trans (hbl.mono hz2);have ah5:=GD ah (d.its.take j) u;rw[<- hn,pK] at ah5
      by_cases hjl:j<ks.length
      ·
       have hx:=(GL.cell (p:=⟨bk,ok+j,none⟩) (by show bk<_;omega)).trans (Xh.out j hjl)
       have hjp:j<(dW u d.its).length:=by have:=HLK.out;omega
       have hrep:=HRP.out j hjl hjp;have hst:=HRD.out j hjp;have hmem:=nH hjp;generalize (dW u d.its)[j]=it at hrep hst hmem;obtain⟨it,v⟩:=it;simp only at hrep hst;generalize ks[j]=qk at hx hrep;obtain⟨m,xn,rfl,hnx,hkx⟩:=OM hrep;obtain⟨hm,Wv⟩:=pE hnx;obtain⟨b',off',jw,kv',e',_,y0,_,_,_⟩:=HT.out.node hm
       obtain⟨⟨rfl,rfl⟩,rfl⟩:(b=b'/\off=off')/\cap=jw:=by simpa using e'
       rw[Wv] at y0;have y0':=(GL.cell (p:=⟨b,off+m * 3,none⟩) (by show b<_;omega)).trans y0
       have hmI:(m:Int)<(aj.length:Int):=by omega
       have Ij:(j:Int)<(ks.length:Int):=by omega
       obtain⟨r0',r1'⟩:=lY hr0;generalize gI ah u (d.its.take j)=acc at hn hrow hst;have HN:=ay hn;have HST:=ay hst;clear hn hst y0 e' hnx Wv hX8 nE G0 G1 g0 g1 Y2 cO
       by_cases hpar:∃ t,it=.par t
       ·obtain⟨tS,rfl⟩:=hpar
        have hk4:xn.kind=4:=hkx;rw[hk4] at y0';have HC:=ay (agK.out tS v hmem m wr.drew hrep (HT.out.below (GL.mono hB).drew) (jq hB GL.size));have hst':gI ah u (d.its.take (j+1))=acc++[tS.wM ah v]:=HST.out;generalize tS.wM ah v=f at HC hst';have HS2:=ay hst';obtain⟨Ck,h1,hown,hes⟩:=hrow;rw[<- HN.out] at hown;have aeL:=(bP hXr).1;obtain⟨⟨d0,d1,d2,d3,d4⟩,⟨d5,d6,d7,d8,d9⟩,⟨Xo,Xp,Xq,Xr,Xt⟩,dz⟩:=dL hXr
        have hlts:∀ b,some b=(Value.slice ap n cp).ownBlock->wl.heap.size<=b/\b<wr.heap.size:=λb q=>hown.lt b q.symm
        have Z4:some X≠(Value.slice ap n cp).ownBlock:=λq=>by have:=(hlts X q).1;omega
        clear hst' HST hk4 hkx hrep hmem d0 d1 d3 d4 d5 d6 d7 d8 d9 Xo Xp Xq Xr Xt;have HL:=ay hlts;clear hlts;go_wp2
        go_region_law ((first
         | (refine step_append_lies _ (by rfl) _ _ _ (by rfl) wl.heap.size 103 ip _ 5 64 Tryz.underlying54 aeG aeH aeI aeJ rfl (by omega) (.slice ap n cp) n _ (by rfl) ((own_below (sW hown) hb2).alloc _) ⟨W2.heap.size,0,none⟩ 1 1 [.string ⟨f.name.toArray⟩,.int .i64 f.base,.slice ao2 f.aC.length cc2,.int .i64 f.at_,.int .i64 f.bare] (by rfl) (by rfl) (vL (cs:=#[.string ⟨f.name.toArray⟩,.int .i64 f.base,.slice ao2 f.aC.length cc2,.int .i64 f.at_,.int .i64 f.bare]) (t:=103) (fr:=(0,0)) (aX W2 _)) (by simp[Value.oneCell']) (by omega) (by unfold maxLen;omega) (by omega) (by have:=hb2.size;simp at this |-;omega) (W2.heap.size+1) (by simp) ?_;intro gg jO w5' gB fB uL KG;have vR:=(fB.block X (by have:=hb2.size;simp at this |-;omega) Z4).trans ((gZ W2 _ X (by have:=hb2.size;simp at this;omega)).trans Fp);have r65:=(dL vR).1.2.2.1;have z65:=(dL vR).2.2.2 2)
         | (refine tL rfl 115 _ _ rfl HC.out (by rfl) (ent _ _) ?_;rintro e W2 ⟨ao2,cc2,rfl,hxe,hb2⟩;refine⟨_,rfl,?_⟩;have Fp:=(hb2.block X aeL).trans hXr;have r62:=(dL Fp).1.2.2.1;have r63:=λo=>Lib.cell?_alloc_some o r62)))
        all_goals
         obtain⟨q1,q2,q3⟩:=qL.round (K:=FK XA) (Q:=λb=>wl.heap.size<=b) (wr:=wr.drew) (kv:=.slice ap n cp) (Tp:=.slice (some ⟨gg,0,none⟩) (n+1) jO) (acc:=acc) (a:=f) (x:=.slice ao2 f.aC.length cc2) (l:=Ck) (show aW _ wl wr.drew from dD) ah4 (by omega) h1 (by rw[<- HN.out];exact hown) (λp hp=>(FK XA).frame (hes p hp) (aW.drew _ wr)) ((FK XA).imp (P:=λb=>wr.drew.heap.size<=b) hxe λb hb _=>⟨jq aeK hb,λq=>by have:=(HL.out b q).2;have:wr.drew.heap.size=wr.heap.size:=rfl;omega⟩) hb2 (by rw[<- HN.out];exact gB) fB rfl uL 2 (.slice (some ⟨gg,0,none⟩) (n+1) jO);have Fq:(w5'.setCell ⟨X,2,none⟩ (.slice (some ⟨gg,0,none⟩) (n+1) jO)).heap[X]?=some (.cells (GK pb tt (.slice (some ⟨gg,0,none⟩) (n+1) jO) a.base (.slice ao a.aC.length cc) tp a.bare) 62 (0,0)):=jN w5' X 2 _ _ _ vR;have Fu:=q3 w2.heap.size w2 hXl hbl.drew;clear fB gB uL vR r65 z65 Fp r62 r63 hxe hb2 HC hes hown dD hXr d2 dz hx y0' r0' r1' hr0 GL hbl h1;generalize w5'.setCell _ _=w6' at q1 q2 Fq Fu |-;go_wp2
         go_roundw
         case rel =>
          refine⟨j+1,n+1,some ⟨gg,0,none⟩,jO,by omega,?_⟩;rw[HS2.out];exact⟨by rw[bY,<- HN.out];rfl,by go_num,q2,Fq,q1,Fu⟩
         case measure=>simp[intOf];omega
       ·have hne:=it.Sm (λt e=>hpar ⟨t,e⟩)
        have HPO:=ay (it.Wx ah v (λt e=>hpar ⟨t,e⟩));rw[<- hkx] at hne;generalize xn.kind=kx at y0' hne
        have t4:(kx == 4)=false:=by rw[<- vM,beq_iff_eq];exact hne
        clear hne hpar hkx hrep hmem;go_wp2
        go_roundw
        case rel =>
         have e1:=HST.out;rw[HPO.out,List.append_nil] at e1;refine⟨j+1,n,ap,cp,by omega,?_⟩;rw[e1];exact⟨HN.out,by go_num,dD,hXr,hrow,hbl⟩
        case measure=>simp[intOf];omega
      ·obtain rfl:j=ks.length:=by omega
       have hti:d.its.take ks.length=d.its:=Ba (by have:=HIT.out;omega);rw[hti,<- HPS.out] at hn hrow;have Ij:decide ((ks.length:Int)<(ks.length:Int))=false:=dX (by omega);have HN:=ay hn;have aeL:=(bP hXr).1;have G1r:=(dD.2 (w.heap.size+1) ⟨by omega,by omega⟩ (by omega)).trans G1
       have acZ:RowK (EK XA) (λb=>w6.heap.size<=b/\b<wl.heap.size) wr (.slice ao a.aC.length cc) a.aC:=(ZY.imp (Q:=λb=>(w6.heap.size<=b/\b<wl.heap.size)/\b<wl.heap.size/\b≠X) λb hb hl=>⟨⟨hb,hl⟩,hl,by omega⟩).frame ⟨dD.1,λb hb hl=>dD.2 b hb.2 hl⟩ |>.imp λb hb _=>hb.1
       have hpr:=hrow.row
       have hz0:wr.cell? ⟨bk,ok+(ks.length - 2),none⟩=some (.int .i64 k2):=(jo hbl Z2)
       have HC:=ay (TJ.out wr.drew (HT.out.below (GL.mono hB).drew) (jq hB GL.size));obtain⟨r0',r1'⟩:=lY hr0;clear hn hti ZY hX8 nE hrow dD G0 G1 g0 g1 Y2 TJ agK HRD HRP Xh Z2
       have agM:w.heap.size≠X:=by omega
       have ah6:bk≠X:=by omega
       have hwr2:IntKind.i64.wrap ((ks.length:Int) - 2)=(ks.length:Int) - 2:=IntWalk.i64_in _ (by omega)
       have hw0:(0:Int)<=(ks.length:Int) - 2:=by omega
       have hw2:(2:Int)<=(ks.length:Int):=by omega
       have hw3:(ks.length:Int) - 2<(ks.length:Int):=by omega
       have hw4:((ks.length:Int) - 2).toNat=ks.length - 2:=by omega
       go_wp2
       go_region_held3 (λw'=>w'.cell? ⟨w.heap.size,0,none⟩=some (.slice a1 ah.length c1)/\w'.cell? ⟨w.heap.size,1,none⟩=some (.slice (some ⟨b,off,none⟩) aj.length cap)/\w'.cell? ⟨bk,ok+(ks.length - 2),none⟩=some (.int .i64 k2))
        (first|(with_reducible exact p3)|((try dsimp only);with_reducible exact gy ((zA w9 X _ _ _ _ _ _ _ _ agM).trans p3.1) (gy ((zA w9 X _ _ _ _ _ _ _ _ agM).trans p3.2.1) ((zA w9 X _ _ _ _ _ _ _ _ ah6).trans p3.2.2)))|(go_keep;done))
        ((go_at_call 116;refine HC.out.mono ?_;rintro e w9 ⟨am,wn,cm,ae,ce,rfl,Xm,DN⟩;have Xg:Below wr.heap.size wr w9:=(bQ wr.heap.size wr).drew.trans DN;have p3:=gy (jo Xg r0') (gy (jo Xg r1') (jo Xg hz0));have hX9:=(Xg.block X aeL).trans hXr;obtain⟨⟨d0,d1,d2,d3,d4⟩,⟨d5,d6,d7,d8,d9⟩,⟨Xo,Xp,Xq,Xr,Xt⟩,dz⟩:=dL hX9))
       obtain rfl:=HN.out
       have hle:w.heap.size<=X:=by omega
       have hR1:=(bP G1r).1;have agN:=Sq (show w9.heap[X]?=some (.cells #[.bool pb,.string ⟨tt.toArray⟩,.slice ap lX.length cp,.int .i64 a.base,.slice ao a.aC.length cc,.int .i64 0,.string ⟨#[]⟩,.string ⟨#[]⟩,.bool false,.slice none 0 0,.bool false,.slice none 0 0,.int .i64 0,.int .i64 tp,.int .i64 a.bare] 62 (0,0)) from hX9) (.int .i64 x.op) (.string ⟨x.name.toArray⟩) (.string ⟨x.module.toArray⟩) (.bool (decide (x.num<0))) (.slice am wn cm) (.bool x.yes) (.slice ae x.aB.length ce) (.int .i64 x.at_);have Ce:=OT (GL.trans (Xg.mono GL.size)) hle (.int .i64 x.op) (.string ⟨x.name.toArray⟩) (.string ⟨x.module.toArray⟩) (.bool (decide (x.num<0))) (.slice am wn cm) (.bool x.yes) (.slice ae x.aB.length ce) (.int .i64 x.at_)
       have hA:=λP hP=>Wy P w9 X (.int .i64 x.op) (.string ⟨x.name.toArray⟩) (.string ⟨x.module.toArray⟩) (.bool (decide (x.num<0))) (.slice am wn cm) (.bool x.yes) (.slice ae x.aB.length ce) (.int .i64 x.at_) hP
       have G10:=((hA (λk=>k≠X) (λk hk=>hk)).2 (w.heap.size+1) (by omega) (xw hR1 Xg.size)).trans ((Xg.block _ hR1).trans G1r);have acg:=(hpr.frame (aW.of Xg)).frame (hA (λb=>wl.heap.size<=b) λk hk=>by omega);have agO:=(acZ.frame (aW.of Xg)).frame (hA (λb=>w6.heap.size<=b/\b<wl.heap.size) λk hk=>by omega);have LD:=Xm.frame (hA (λb=>wr.drew.heap.size<=b) λk hk=>by have:wr.drew.heap.size=wr.heap.size:=rfl;omega);clear p3 d0 d1 d2 d3 d4 d5 d6 d7 d8 d9 Xo Xp Xq Xr Xt dz hA hX9 Xm Xg DN hwr2 hw0 hw2 hw3 hw4 r0' r1' hz0 HC hXr hr0 G1r hpr acZ HN;generalize (World.setCell (World.setCell (World.setCell (World.setCell (World.setCell (World.setCell (World.setCell (World.setCell _ _ _) _ _) _ _) _ _) _ _) _ _) _ _) _ _)=mU at agN Ce G10 acg agO LD |-;obtain⟨⟨d0,d1,d2,d3,d4⟩,⟨d5,d6,d7,d8,d9⟩,⟨Xo,Xp,Xq,Xr,Xt⟩,dz⟩:=dL agN;obtain⟨⟨e0,e1,e2,e3,e4⟩,⟨e5,e6,e7,e8,e9⟩,⟨e10,e11,e12,e13,e14⟩,ez⟩:=dL G10;go_wp2;refine nI (v:=.agg #[.bool pb,.string ⟨tt.toArray⟩,.slice ap lX.length cp,.int .i64 a.base,.slice ao a.aC.length cc,.int .i64 x.op,.string ⟨x.name.toArray⟩,.string ⟨x.module.toArray⟩,.bool (decide (x.num<0)),.slice am wn cm,.bool x.yes,.slice ae x.aB.length ce,.int .i64 x.at_,.int .i64 tp,.int .i64 a.bare]) (by simp[results,Tryz.results69,go_sem,e0,e1,e2,e3,e4,e5,e6,e7,e8,e9,e10,e11,e12,e13,e14]) rfl ⟨ap,cp,ao,cc,am,wn,cm,ae,ce,rfl,⟨?_,?_,?_⟩,?_⟩
       ·exact(acg.frame (Cj _ _ _ _ _ _ _ _ _ _ _ _ _ _ _ _ _ _ λk hk=>by omega)).imp λb hb _=>by omega
       ·exact(agO.frame (Cj _ _ _ _ _ _ _ _ _ _ _ _ _ _ _ _ _ _ λk hk=>by omega)).imp λb hb _=>by omega
       ·exact(LD.frame (Cj _ _ _ _ _ _ _ _ _ _ _ _ _ _ _ _ _ _ λk hk=>by have:wr.drew.heap.size=wr.heap.size:=rfl;omega)).imp λb hb _=>by have:wr.drew.heap.size=wr.heap.size:=rfl;omega
       ·exact wZ Ce (by omega) _ _ _ _ _ _ _ _ _ _ _ _ _ _ _
theorem Wz (h:Laid S 0 ah)(v:Nat):dU ah v+(aP ah v).length<=S.length:=by
 have hs:=h.some
 have hi:min v (ah.length - 1)<ah.length:=by omega
 have hp:=h.place _ hi;have h1:=h.inside (min v (ah.length - 1)+1) (by omega);rw[kL ah _ hi,oD] at h1
 have e:dx ah v=ah[min v (ah.length - 1)]:=by
  rw[dx,Kr,AY hi,Option.getD_some]
 unfold dU aP;rw[e,hp];omega
theorem aeM (F:uj S ah aj p)(B:Nat)(tv nv:Value):RdE B tv nv ah aj:=by
 have hL:=iZ F.adu;have hs:=F.small;refine⟨λv=>jq (Wz hL v) (by omega),F.good.aB,λcl e u ho hl k W hr hT hW=>?_⟩;refine eH ⟨B,tv,nv,ah,aj,cl⟩ ⟨F.good.VD,λu hu hk W=>?_⟩ (SizeOf.sizeOf e+1) e u (by omega) ho hl k W hr ⟨hT,hW⟩;have h:=sH F.adu _ (wL hL.some u) hk;obtain⟨X,hX,eX⟩:=jD (aP ah u);simp only;rw[eX,<- hX]
 have h':uQ X.data.toList:=by rw[hX];exact h
 refine QL X W ?_ ?_ h'.1 (λq=>by rw[<- aY];exact h'.2.2.2 q)
 ·rw[<- aY];exact List.length_pos_iff.2 h'.2.1
 ·rw[<- aY];exact h'.2.2.1
theorem WA (F:uj S ah aj p):∃ (r:Nat) (ks:List Int),aj.length=r+1/\aj[r]?=some ⟨(1:Nat),-1,ks⟩/\fP aj ks 0 p.aB:=by
 have hr:=oH.em (pre:=[]) p.pt 0 0 rfl
 have hnd:aj.length=p.pt.nd:=by rw[F.OP,PT.uI]
 have hp:=p.pt.iF;rw[uD,Nat.zero_add,<- F.OP,<- hnd] at hr
 obtain⟨r,hr1⟩:∃ r,aj.length=r+1:=⟨aj.length - 1,by omega⟩
 rw[hr1,show (((r+1:Nat):Int) - 1)=(r:Int) by omega,l6.pt] at hr;obtain⟨ks,h1,h2⟩:=fD hr;exact⟨r,ks,hr1,h1,h2⟩
def aeN (p:PP)(w:World)(e:Ending)(w':World):Prop :=
 ∃ ai ci ad cd,e=.returned (.tuple #[.agg #[.slice ai p.aD.length ci,.slice ad p.defs.length cd],.int .i64 0])/\(ai=none->ci=0)/\BA (λb=>w.heap.size<=b) w' (.slice ai p.aD.length ci) (.slice ad p.defs.length cd) p/\Below w.heap.size w w'
def Z5 (p:PP)(w:World)(e:Ending)(w':World):Prop :=
 ∃ ai ci ad cd,e=.returned (.tuple #[.agg #[.slice ai p.aD.length ci,.slice ad p.defs.length cd],.int .i64 0])/\(ai=none->ci=0)/\BA (λb=>w.heap.size<=b) w' (.slice ai p.aD.length ci) (.slice ad p.defs.length cd) p/\Below w.heap.size w w'/\og DA w.heap.size 62 w' (.slice ad p.defs.length cd) p.defs
theorem Z5.post {p:PP}{e:Ending}(h:Z5 p w e w'):aeN p w e w':=by
 obtain⟨ai,ci,ad,cd,h1,h2,h3,h4,_⟩:=h;exact⟨ai,ci,ad,cd,h1,h2,h3,h4⟩
theorem og.base {α β:Type}{K:RK α β}{D:Nat}{zs:List α}(h:og K C e w v zs)(hD:D<=C):og K D e w v zs:=by
 obtain⟨l,h1,h2,h3⟩:=h;refine⟨l,h1,⟨h2.1,?_⟩,λp hp=>K.imp (h3 p hp) λb hb _=>⟨by omega,hb.2⟩⟩
 rcases h2.2 with h|⟨g,cap,cur,q1,q2,q3⟩
 ·exact .inl h
 ·exact .inr ⟨g,cap,cur,q1,by omega,q3⟩
def aeO (IK:RK (aH × Nat) Unit)(DK:RK DD DV)(p:PP)(wl:World)(pb e1 e2 j:Nat)(W:World)(iv dv:Value):Prop :=
 (j<=p.aD.length/\og IK wl.heap.size e1 W iv (p.aD.take j)/\dv=.slice none 0 0) \/
 (p.aD.length<=j/\(∀ n c,iv=.slice none n c->c=0)/\∃ w2:World,wl.heap.size<=w2.heap.size/\aW (λb=>b<wl.heap.size/\b≠pb) wl w2/\RowK IK (λb=>wl.heap.size<=b) w2 iv p.aD/\aW (λb=>b<w2.heap.size/\b≠pb) w2 W/\og DK w2.heap.size e2 W dv (p.defs.take (j - p.aD.length)))
theorem og.agP {α β:Type}{K:RK α β}{zs:List α}(h:og K C e w v zs):∀ n c,v=.slice none n c->c=0:=by
 obtain⟨l,_,h2,_⟩:=h;intro n c hv
 rcases h2.2 with ⟨h3,_⟩|⟨g,cap,cur,h3,_⟩
 ·rw[hv] at h3;injection h3
 ·rw[hv] at h3;injection h3 with h4;cases h4
theorem aeO.two {IK:RK (aH × Nat) Unit}{DK:RK DD DV}{p:PP}{wl:World}{pb e1 e2 j:Nat}{W:World}{iv dv:Value}(h:aeO IK DK p wl pb e1 e2 j W iv dv)(hj:p.aD.length<=j)(ha:aW (λb=>b<wl.heap.size/\b≠pb) wl W):(∀ n c,iv=.slice none n c->c=0)/\∃ w2:World,wl.heap.size<=w2.heap.size/\aW (λb=>b<wl.heap.size/\b≠pb) wl w2/\RowK IK (λb=>wl.heap.size<=b) w2 iv p.aD/\aW (λb=>b<w2.heap.size/\b≠pb) w2 W/\og DK w2.heap.size e2 W dv (p.defs.take (j - p.aD.length)):=by
 rcases h with ⟨h1,h2,rfl⟩|⟨_,h2,h3⟩
 ·obtain rfl:j=p.aD.length:=by omega
  rw[zG] at h2;refine⟨h2.agP,W,ha.1,ha,h2.row,aW.refl _ _,?_⟩;rw[Nat.sub_self,List.take_zero];exact og.nil _ _ _ _
 ·exact⟨h2,h3⟩
def FF.z (f:FF):ZF:=⟨f.name,f.base,f.aC.map PE.z,f.at_,f.bare⟩
def DD.z (d:DD):ZD:=⟨d.pub,d.params.map FF.z,d.res.z,d.body.z⟩
def PP.z (p:PP):ZP:=⟨p.aD.map λm=>(m.1,(m.2:Int)),p.defs.map DD.z⟩
section
variable {α β γ:Type}
theorem OV {K:RK α β}{L:RK γ β}{g:α->γ}(hc:∀ a b,L.cells (g a) b=K.cells a b):∀ l:List (α × β),L.flat (l.map λp=>(g p.1,p.2))=K.flat l
 | []=>rfl
 | p :: l=>by
  have:=OV hc l;unfold RK.flat at this |-;rw[lN,List.flatMap_cons,List.flatMap_cons,this,hc]
theorem Ue (g:α->γ):∀ l:List (α × β),(l.map λp=>(g p.1,p.2)).map Prod.fst=(l.map Prod.fst).map g
 | []=>rfl
 | p :: l=>by rw[lN,lN,Ue g l];rfl
theorem RowK.map {K:RK α β}{L:RK γ β}{g:α->γ}{P:Nat->Prop}{w:World}{v:Value}{zs:List α}(hs:L.sz=K.sz)(hc:∀ a b,L.cells (g a) b=K.cells a b)(hi:∀ a b,K.inn P w a b->L.inn P w (g a) b)(h:RowK K P w v zs):RowK L P w v (zs.map g):=by
 obtain⟨l,rfl,h2,h3⟩:=h;refine⟨l.map λp=>(g p.1,p.2),Ue g l,?_,λp hp=>?_⟩
 ·rw[OV hc,hs,oC];exact h2
 ·obtain⟨q,hq,rfl⟩:=List.mem_map.1 hp
  exact hi _ _ (h3 q hq)
end
theorem Uf {es:List PE}(h:RowK (EK XA) P w v es):RowK (ZK YA) P w v (es.map PE.z) :=
 RowK.map (K:=EK XA) (L:=ZK YA) (g:=PE.z) rfl (λa b=>NH a b.1 b.2) (λ_ _ h=>l7.ofE h) h
theorem ac0 {es:List FF}(h:RowK (FK XA) P w v es):RowK ZFK P w v (es.map FF.z) :=
 RowK.map (K:=FK XA) (L:=ZFK) (g:=FF.z) rfl (λ_ _=>rfl) (λ_ _ h=>Uf h) h
theorem ac1 {d:DD}{x:DV}(h:DA.inn P w d x):PS.inn P w d.z x:=⟨ac0 h.1,Uf h.2.1,l7.ofE h.2.2⟩
theorem WB (d:DD)(x:DV):PS.cells d.z x=DA.cells d x:=by
 obtain⟨pub,ps,res,body⟩:=d;cases body
 rfl
theorem ac2 {es:List DD}(h:RowK DA P w v es):RowK PS P w v (es.map DD.z):=RowK.map (K:=DA) (L:=PS) (g:=DD.z) rfl WB (λ_ _ h=>ac1 h) h
mutual
theorem PE.Z6:∀ e:PE,e.z.size=e.mY
 | .mk _ _ _ _ _ _ aB _=>by rw[PE.z,PZ.size,PE.mY,OW aB];omega
theorem OW:∀ l:List PE,ou (Ti l)=iV l
 | []=>rfl
 | e :: l=>by rw[Ti,ou,iV,PE.Z6 e,OW l]
end
theorem GN:∀ l:List PE,l.length<=iV l
 | []=>bD _
 | e :: l=>by
  have:=GN l
  have:1<=e.mY:=by cases e;rw[PE.mY];omega
  rw[iV,fu];omega
mutual
theorem PE.ady {M:Nat}(hM:M<=65536):∀ e:PE,e.fits M->e.mY<=65536->e.z.fit
 | .mk op nm md num txt yes aB a,h,hs=>by
  rw[PE.fits] at h;rw[PE.mY] at hs;have hl:=GN aB;rw[PE.z,PZ.fit];exact⟨by omega,by omega,h.2.2.2.2.2.1,by rw[KF,oC];omega,Ug hM aB h.2.2.2.2.2.2 (by omega)⟩
theorem Ug {M:Nat}(hM:M<=65536):∀ l:List PE,jP M l->iV l<=65536->Lc (Ti l)
 | [],_,_=>by rw[Ti,Lc];trivial
 | e :: l,h,hs=>by
  rw[jP] at h;rw[iV] at hs;rw[Ti,Lc];exact⟨PE.ady hM e h.1 (by omega),Ug hM l h.2 (by omega)⟩
end
theorem og.head {α β:Type}{K:RK α β}{zs:List α}(h:og K C e w v zs)(h0:0<zs.length):∃ g cap,v=.slice (some ⟨g,0,none⟩) zs.length cap/\C<=g/\g<w.heap.size:=by
 obtain⟨l,h1,h2,h3⟩:=h
 rcases h2.2 with ⟨_,hv⟩|⟨g',jw,cur,hv,hg,hh,_⟩
 ·omega
 ·exact⟨g',jw,hv,hg,(bP hh).1⟩
def Dj:RK ZF Value where
 sz:=3
 cells f cv:=[fC f.name,.int .i64 f.base,cv]
 inn P w f cv:=RowK (ZK YA) P w cv f.aC
 len _ _:=rfl
 frame h ha:=h.frame ha
 imp h hq:=h.imp hq
def agQ (P:Nat->Prop)(w:World)(pv cv:Value)(ps:List ZF)(cl:List PZ):Prop:=RowK Dj P w pv ps/\RowK (ZK YA) P w cv cl
theorem Tryz.Z7:(Tryz.prog.info? 147).map (λi=>(i.zero,i.size,i.bytes))=some (some (.agg #[.string ⟨#[]⟩,.int .i64 0,.slice none 0 0]),3,48):=by kernel_rfl
theorem Tryz.Z8:∀ args w,(callFunc 82 args).run Tryz.prog w=.ok (.enter 82 args) w:=Go.Proofs.enters_of Tryz.func82 (by kernel_rfl) rfl
def LM (P:Nat->Prop)(d:ZD)(w:World)(e:Ending)(w':World):Prop:=∃ a c ac cc,e=.returned (.agg #[.string ⟨d.res.name.toArray⟩,.slice a d.params.length c,.int .i64 d.res.base,.slice ac d.res.aC.length cc])/\agQ (λb=>(P b/\b<w.heap.size)\/w.heap.size<=b) w' (.slice a d.params.length c) (.slice ac d.res.aC.length cc) d.params d.res.aC/\Below w.heap.size w w'
theorem OX (h:RowK (ZK YA) P w v ks):∃ l:List (PZ × (Value × Value)),l.map Prod.fst=ks/\oJ P w v 8 ks.length ((ZK YA).flat l)/\(∀ u∈(ZK YA).flat l,u.oneCell'=true)/\∀ p∈l,l7 YA P w p.2.1 p.2.2 p.1:=by
 obtain⟨l,h1,h2,h3⟩:=h;refine⟨l,h1,h2,λu hu=>?_,h3⟩;obtain⟨⟨e,m,k⟩,hp,hq⟩:=List.mem_flatMap.1 hu;have he:l7 YA P w m k e:=h3 _ hp;obtain⟨am,wn,cm,ae,ce,rfl,rfl⟩:=he.PK;simp only[ZK,YA,nY,List.not_mem_nil,or_false] at hq
 rcases hq with rfl|rfl|rfl|rfl|rfl|rfl|rfl|rfl<;>rfl
theorem GQ {Q R:Nat->Prop}{v':Value}{l:List (PZ × (Value × Value))}(h1:l.map Prod.fst=ks)(h2:oJ Q w' v' 8 ks.length ((ZK YA).flat l))(h3:∀ p∈l,l7 YA P w p.2.1 p.2.2 p.1)(hA:aW P w w')(hQ:∀ b,Q b->b<w'.heap.size->R b)(hP:∀ b,P b->b<w.heap.size->R b):RowK (ZK YA) R w' v' ks :=
 ⟨l,h1,h2.imp hQ,λp hp=>((h3 p hp).imp (Q:=λb=>P b/\R b) λb hb hl=>⟨hb,hP b hb hl⟩).frame ⟨hA.1,λb hb hl=>hA.2 b hb.1 hl⟩ |>.imp λb hb _=>hb.2⟩
theorem xg (v0 v1 v2 v3:Value)(h:∀ k,P k->k≠b):aW P w (qA w b v0 v1 v2 v3) :=
 (((aW.set (a:=⟨b,0,none⟩) v0 h).trans (aW.set (a:=⟨b,1,none⟩) v1 h)).trans (aW.set (a:=⟨b,2,none⟩) v2 h)).trans (aW.set (a:=⟨b,3,none⟩) v3 h)
theorem J4 (P:Nat->Prop)(d:ZD)(ap:Option Addr)(cp:Nat)(ac:Option Addr)(cc:Nat)(am:Option Addr)(wn cm:Nat)(ae:Option Addr)(ce:Nat)(w:World)(hfit:d.qF)
  (hP:RowK ZFK P w (.slice ap d.params.length cp) d.params) (hC:RowK (ZK YA) P w (.slice ac d.res.aC.length cc) d.res.aC) :
  Calls Tryz.prog 39 #[.agg (gN d ap cp ac cc am wn cm ae ce)] w (LM P d w):=by
 have hal:=(aA w (.cells (gN d ap cp ac cc am wn cm ae ce) 62)).alloc (by simp) (.cells #[.string ⟨#[]⟩,.slice none 0 0,.int .i64 0,.slice none 0 0] 115);have g0:=(gZ (w.alloc (.cells (gN d ap cp ac cc am wn cm ae ce) 62)) (.cells #[.string ⟨#[]⟩,.slice none 0 0,.int .i64 0,.slice none 0 0] 115) w.heap.size (by simp)).trans (aX w (.cells (gN d ap cp ac cc am wn cm ae ce) 62));have g1:=aX (w.alloc (.cells (gN d ap cp ac cc am wn cm ae ce) 62)) (.cells #[.string ⟨#[]⟩,.slice none 0 0,.int .i64 0,.slice none 0 0] 115);rw[nG] at g1;obtain⟨PN,PO,hv,_,hform⟩:=hP.form;simp only[Value.slice.injEq] at hv;obtain⟨rfl,-,rfl⟩:=hv;have hPR:=hP;obtain⟨lc,hlc,hcs1,hcs2,agR⟩:=OX hC
 obtain⟨cs,aeP⟩:∃ cs,cs=(ZK YA).flat lc:=⟨_,rfl⟩
 rw[<- aeP] at hcs1 hcs2;have HCS:=ay (gy hlc (gy aeP agR));have hpn:=hfit.lX;have hcn:=hfit.cl.1;have DL:=ay (λW (hW:Below w.heap.size w W)=>Gg P _ _ cs W (hcs1.frame (aW.of hW)) hcs2 (by omega));have HF:=ay hform;have rZ:=ay hfit;clear hform hP hC hfit hcs1 hcs2 agR hlc aeP hPR;go_enter Tryz.func39,Tryz.ntmps39
 go_upto_region 1 with fail
 change Code.wp _ _ _ _ ((w.alloc (.cells (gN d ap cp ac cc am wn cm ae ce) 62)).alloc (.cells #[.string ⟨#[]⟩,.slice none 0 0,.int .i64 0,.slice none 0 0] 115));generalize (w.alloc (.cells (gN d ap cp ac cc am wn cm ae ce) 62)).alloc (.cells #[.string ⟨#[]⟩,.slice none 0 0,.int .i64 0,.slice none 0 0] 115)=w1 at *;have hz1:=hal.size;have hl1:=(bP g1).1;obtain⟨y0,y1,y2,y3,y4,y5,y6,y7,y8,y9,rP,rQ,rR,y13,PV⟩:=aV g0;have HG:=ay (gy g0 g1)
 have hn1:w.heap.size≠w1.heap.size:=by omega
 clear g0 g1
 go_cut [3] (λp wc=>∃ (Y:Nat) (a3:Option Addr) (c3:Nat),p=.pointer (some ⟨Y,0,none⟩)/\wc.heap[Y]?=some (.cells #[.string ⟨d.res.name.toArray⟩,.slice none 0 0,.int .i64 d.res.base,.slice a3 d.res.aC.length c3] 115 (0,0))/\w1.heap.size<=Y/\Below w1.heap.size w1 wc/\oJ (λb=>w1.heap.size<=b/\b≠Y) wc (.slice a3 d.res.aC.length c3) 8 d.res.aC.length cs)
 case first =>
  go_region_held3 (λW=>W.cell? ⟨w.heap.size,1,none⟩=some (.string ⟨d.res.name.toArray⟩)/\W.cell? ⟨w.heap.size,3,none⟩=some (.int .i64 d.res.base)/\W.cell? ⟨w.heap.size,4,none⟩=some (.slice ac d.res.aC.length cc))
   (first|(with_reducible exact p3)|(with_reducible exact gy ((mH w2 w1.heap.size w.heap.size 1 _ _ _ _ hn1).trans p3.1) (gy ((mH w2 w1.heap.size w.heap.size 3 _ _ _ _ hn1).trans p3.2.1) ((mH w2 w1.heap.size w.heap.size 4 _ _ _ _ hn1).trans p3.2.2)))|(go_keep;done))
   (first|(go_at_call 82;refine(DL.out _ ?_).mono ?_;(first|exact hal.drew|exact(hal.alloc hz1 _).drew);rintro e w2 ⟨a3,c3,rfl,hsl2,hb2⟩;have hq2:Below w1.heap.size w1 w2:=(by first|exact(bQ _ _).drew.trans hb2|exact((bQ _ _).alloc (bD _) _).drew.trans (hb2.mono (by simp)));have p3:=gy (jo hq2 y1) (gy (jo hq2 y3) (jo hq2 y4));try (have hT:=(hb2.block w1.heap.size (by simp)).trans (aX w1 (.cells #[.string ⟨#[]⟩,.slice none 0 0,.int .i64 0,.slice none 0 0] 115));obtain⟨⟨t0,t1,t2,t3⟩,g0,g1,g2,g3⟩:=mF hT)))
  ·clear p3
   go_wp2_with fail
   go_meet
   exact⟨w2.heap.size,a3,c3,rfl,aX w2 _,hq2.size,hq2.alloc hq2.size _,((hsl2.imp (Q:=λb=>w1.heap.size<=b/\b≠w2.heap.size) λb hb hl=>⟨hb,by omega⟩).frame (aW.of (aA w2 _)))⟩
  ·clear p3
   go_wp2_with fail
   go_meet
   exact⟨w1.heap.size,a3,c3,rfl,iM hT (.string ⟨d.res.name.toArray⟩) (.slice none 0 0) (.int .i64 d.res.base) (.slice a3 d.res.aC.length c3),bD _,fZ hq2 (bD _) (.string ⟨d.res.name.toArray⟩) (.slice none 0 0) (.int .i64 d.res.base) (.slice a3 d.res.aC.length c3),((hsl2.imp (Q:=λb=>w1.heap.size<=b/\b≠w1.heap.size) λb hb hl=>by have h9:w1.heap.size+1<=b:=(by simpa using hb);omega).frame (xg _ _ _ _ λk hk=>hk.2))⟩
 case rest =>
  obtain⟨Y,a3,c3,rfl,hY,hYw,hqc,hsl⟩:=hcut
  obtain⟨w2,rfl⟩:∃ w2:World,w2=wc:=⟨_,rfl⟩
  clear y0 y1 y2 y3 y4 y5 y6 y7 y8 y9 rP rQ rR y13 PV;have gd2:=(hqc.block _ (by omega)).trans HG.out.1;have gr2:=(hqc.block _ hl1).trans HG.out.2;have hzc:=hqc.size;have ah7:=(bP hY).1;have kQ:=hal.trans (hqc.mono hz1);obtain⟨y0,y1,y2,y3,y4,y5,y6,y7,y8,y9,rP,rQ,rR,y13,PV⟩:=aV gd2;have Mg:=ay gr2;have HY2:=ay hY;obtain⟨i0,hi,hz0,hz1',hz2⟩:=info_parts Tryz.Z7;clear gd2 gr2 hY HG;generalize hps:d.params=ps at *;generalize hrn:d.res.name=rn at *;generalize hrb:d.res.base=rb at *;generalize hrl:d.res.aC.length=rl at *;have Z9:=ay (gy hrn (gy hrb hrl));have HSL:=ay hsl;have ah8:Y<w2.heap.size:=ah7;clear hsl;clear hrn hrb hrl;go_wp2;clear y0 y1 y2 y3 y4 y5 y6 y7 y8 y9 rP rQ rR y13 PV
  go_loopw [5,17] (λ_ q wr=>∃ (k:Nat) (ak:Option Addr) (ck:Nat),k<=ps.length/\q=.int .i64 k/\wr.heap[Y]?=some (.cells #[.string ⟨rn.toArray⟩,.slice ak k ck,.int .i64 rb,.slice a3 rl c3] 115 (0,0))/\qL Dj (λb=>(P b/\b<w.heap.size)\/w2.heap.size<=b) w2.heap.size 147 wr (.slice ak k ck) (ps.take k)/\wr.heap[w.heap.size+1]?=some (.cells #[.string ⟨#[]⟩,.slice none 0 0,.int .i64 0,.slice none 0 0] 115 (0,0))/\Below w.heap.size w wr/\aW (λb=>b<w2.heap.size/\b≠Y) w2 wr) (λ_ q _=>ps.length - (intOf q).toNat)
  case atStart=>exact⟨0,none,0,kJ _,rfl,HY2.out,by rw[List.take_zero];exact qL.nil _ _ _ _ _,Mg.out,kQ,aW.refl _ _⟩
  case round =>
   obtain⟨k,ak,ck,hk,rfl,hYr,adz,hgr,hbl,dD⟩:=hrel;have ah9:=dD.1;have ajs:w1.heap.size<=wr.heap.size:=jq hzc ah9;have HQ:=ay adz;obtain⟨Ck,hr1,hown,hes⟩:=adz
   have hlk:(ps.take k).length=k:=by rw[pK,Nat.min_eq_left hk]
   rw[hlk] at hown;have hown:wr.ownsRow w2.heap.size 147 3 (.slice ak k ck) k (Dj.flat Ck):=hown;have HES:=ay (gy hr1 (gy hes (gy hlk dD)));generalize hxs:Dj.flat Ck=xs at hown;have HXS:=ay hxs;clear hes hr1 hlk dD hxs;have DY:=hbl.size;have hYl:=(bP hYr).1;have hgl:=(bP hgr).1;have HYR:=ay hYr;have HO:=ay hown;have HOW:=HO;have aa0:=ay hgr;clear hYr hown hgr
   by_cases hlt:k<ps.length
   ·obtain⟨b,off,rfl,hPb,hbw,iw⟩:=HF.out (by omega)
    obtain⟨cv,hcl,hc⟩:=iw k hlt;obtain⟨a2,c2,rfl⟩:=RowK.slice hcl;obtain⟨l2,hl2,hs1,hs2,hs3⟩:=OX hcl
    obtain⟨cs2,aa1⟩:∃ cs2,cs2=(ZK YA).flat l2:=⟨_,rfl⟩
    rw[<- aa1] at hs1 hs2;have htk:=zF hlt;have HL2:=ay (gy hl2 (gy aa1 (gy hs3 htk)));clear hl2 aa1 hs3 htk;have hpf:=rZ.out.pcl _ (by rw[hps];exact nH hlt);have x0:=(hbl.cell (p:=⟨b,off+k * 5+0,none⟩) hbw).trans (hc 0 _ rfl);have x1:=(hbl.cell (p:=⟨b,off+k * 5+1,none⟩) hbw).trans (hc 1 _ rfl);have x2:=(hbl.cell (p:=⟨b,off+k * 5+2,none⟩) hbw).trans (hc 2 _ rfl);have x3:=(hbl.cell (p:=⟨b,off+k * 5+3,none⟩) hbw).trans (hc 3 _ rfl);have x4:=(hbl.cell (p:=⟨b,off+k * 5+4,none⟩) hbw).trans (hc 4 _ rfl);rw[nZ] at x0;simp only[fC] at x0;have hpc:=hpf.1;clear iw hcl hc hpf;generalize ps[k]=p at *;have fJ:=aA wr (.cells #[.string ⟨p.name.toArray⟩,.int .i64 p.base,.slice a2 p.aC.length c2,.int .i64 p.at_,.int .i64 p.bare] 103);have gk:=aX wr (.cells #[.string ⟨p.name.toArray⟩,.int .i64 p.base,.slice a2 p.aC.length c2,.int .i64 p.at_,.int .i64 p.bare] 103)
    have nK:(k:Int)<(ps.length:Int):=by omega
    go_upto_region 5 with fail
    change Code.wp _ _ _ _ (wr.alloc (.cells #[.string ⟨p.name.toArray⟩,.int .i64 p.base,.slice a2 p.aC.length c2,.int .i64 p.at_,.int .i64 p.bare] 103));clear x0 x1 x2 x3 x4
    have aia:wr.heap.size<(wr.alloc (.cells #[.string ⟨p.name.toArray⟩,.int .i64 p.base,.slice a2 p.aC.length c2,.int .i64 p.at_,.int .i64 p.bare] 103)).heap.size:=by simp
    generalize wr.alloc (.cells #[.string ⟨p.name.toArray⟩,.int .i64 p.base,.slice a2 p.aC.length c2,.int .i64 p.at_,.int .i64 p.bare] 103)=w3 at *;have hz3:=fJ.size;have HCK:=ay (λW (hW:Below w3.heap.size w3 W)=>Gg P _ _ cs2 W (hs1.frame (aW.of (hbl.trans ((fJ.trans (hW.mono hz3)).mono DY)))) hs2 (by omega));have HY3:=ay ((fJ.block Y hYl).trans HYR.out);have Xu:=ay (own_below HO.out fJ);have Uh:=ay ((fJ.block _ hgl).trans aa0.out);have Zi:=ay gk
    have HS:Hid (∀ W,aW (λb=>b=wr.heap.size) w3 W->(W.cell? ⟨wr.heap.size,0,none⟩=some (.string ⟨p.name.toArray⟩)/\W.cell? ⟨wr.heap.size,1,none⟩=some (.int .i64 p.base)/\W.cell? ⟨wr.heap.size,2,none⟩=some (.slice a2 p.aC.length c2))):=ay λW hW=>by
     obtain⟨q0,q1,q2,_,_⟩:=dF ((hW.2 _ rfl aia).trans Zi.out);exact⟨q0,q1,q2⟩
    have aeQ:some wr.heap.size≠(Value.slice ak k ck).ownBlock:=own_ne Xu.out Zi.out (by decide);have HC:=ay (HCK.out w3.drew (bQ _ _).drew);have aib:=Tryz.Z8;have p3:=HS.out w3.drew (aW.of (bQ _ _).drew);obtain⟨t0,t1,t2,t3⟩:=(mF HY3.out).1
    have aep:Y<w3.heap.size:=by omega
    have aic:w.heap.size+1<w3.heap.size:=by omega
    have hne:wr.heap.size≠Y:=by omega
    clear gk hs1 HYR HO aa0 HCK;refine wp_region_held_drew (S:=(λW=>W.cell? ⟨wr.heap.size,0,none⟩=some (.string ⟨p.name.toArray⟩)/\W.cell? ⟨wr.heap.size,1,none⟩=some (.int .i64 p.base)/\W.cell? ⟨wr.heap.size,2,none⟩=some (.slice a2 p.aC.length c2))) (by kernel_rfl) p3 (λhHeld=>?_);refine wpAnyH_take (i:=0) (oi:=⟨some 21,_,_,_,_,_⟩) (v:=?_) rfl (by kernel_rfl) (by kernel_rfl) (by kernel_rfl) (λ_ _ _ h=>h) (Or.inl ⟨by rfl,?_⟩) hHeld ?_
    rotate_left
    ·intro w hSw;(try dsimp only at hSw);go_simp;try (with_reducible rfl)
    simp only[Act.put,List.setIfInBounds_toArray,List.set_cons_zero,List.set_cons_succ];refine wpAnyH_take (i:=2) (oi:=⟨some 23,_,_,_,_,_⟩) (v:=?_) rfl (by kernel_rfl) (by kernel_rfl) (by kernel_rfl) (λ_ _ _ h=>h) (Or.inl ⟨by rfl,?_⟩) hHeld ?_
    rotate_left
    ·intro w hSw;(try dsimp only at hSw);go_simp;try (with_reducible rfl)
    simp only[Act.put,List.setIfInBounds_toArray,List.set_cons_zero,List.set_cons_succ];refine wpAnyH_take (i:=3) (oi:=⟨some 24,_,_,_,_,_⟩) (v:=?_) rfl (by kernel_rfl) (by kernel_rfl) (by kernel_rfl) (λ_ _ _ h=>h) (Or.inl ⟨by rfl,?_⟩) hHeld ?_
    rotate_left
    ·intro w hSw;(try dsimp only at hSw);go_simp;try (with_reducible rfl)
    simp only[Act.put,List.setIfInBounds_toArray,List.set_cons_zero,List.set_cons_succ];refine wpAnyH_take (i:=4) (oi:=⟨some 25,_,_,_,_,_⟩) (v:=?_) rfl (by kernel_rfl) (by kernel_rfl) (by kernel_rfl) (λ_ _ _ h=>h) (Or.inl ⟨by rfl,?_⟩) hHeld ?_
    rotate_left
    ·intro w hSw;(try dsimp only at hSw);go_simp;try (with_reducible rfl)
    simp only[Act.put,List.setIfInBounds_toArray,List.set_cons_zero,List.set_cons_succ];refine wpAnyH_take (i:=5) (oi:=⟨some 26,_,_,_,_,_⟩) (v:=?_) rfl (by kernel_rfl) (by kernel_rfl) (by kernel_rfl) (λ_ _ _ h=>h) (Or.inl ⟨by rfl,?_⟩) hHeld ?_
    rotate_left
    ·intro w hSw;(try dsimp only at hSw);go_simp;try (with_reducible rfl)
    simp only[Act.put,List.setIfInBounds_toArray,List.set_cons_zero,List.set_cons_succ];refine wpAnyH_take (i:=6) (oi:=⟨some 27,_,_,_,_,_⟩) (v:=?_) rfl (by kernel_rfl) (by kernel_rfl) (by kernel_rfl) (λ_ _ _ h=>h) (Or.inl ⟨by rfl,?_⟩) hHeld ?_
    rotate_left
    ·intro w hSw;(try dsimp only at hSw);go_simp;try (with_reducible rfl)
    simp only[Act.put,List.setIfInBounds_toArray,List.set_cons_zero,List.set_cons_succ];refine wpAnyH_take (i:=7) (oi:=⟨some 28,_,_,_,_,_⟩) (v:=?_) rfl (by kernel_rfl) (by kernel_rfl) (by kernel_rfl) (λ_ _ _ h=>h) (Or.inl ⟨by rfl,?_⟩) hHeld ?_
    rotate_left
    ·intro w hSw;(try dsimp only at hSw);go_simp;try (with_reducible rfl)
    simp only[Act.put,List.setIfInBounds_toArray,List.set_cons_zero,List.set_cons_succ];refine wpAnyH_ready (rs:=[1,8]) (by kernel_rfl) (by simp) (AllReadyH.cons (o:=⟨some 22,_,_,_,_,_⟩) rfl (λK hK=>?_) (AllReadyH.cons (o:=⟨some 29,_,_,_,_,_⟩) rfl (λK hK=>?_) AllReadyH.nil));go_simp;refine hK.out _ _ (hHeld) (λhHeld=>?_);clear hK K;refine wpAnyH_ready (rs:=[8]) (by kernel_rfl) (by simp) (AllReadyH.cons (o:=⟨some 29,_,_,_,_,_⟩) rfl (λK hK=>?_) AllReadyH.nil)
    all_goals
     refine tL rfl 82 _ _ rfl HC.out (by rfl) (aib _ _) ?_;rintro e w5 ⟨a5,c5,rfl,aie,hb5⟩;refine⟨_,rfl,?_⟩;have xI:Below w3.heap.size w3 w5:=(bQ w3.heap.size w3).drew.trans hb5;have hY5:=(xI.block Y aep).trans HY3.out;have r52:=(mF hY5).1.2.1;have r53:=λo=>Lib.cell?_alloc_some o r52;have al5:aW (λb=>b=wr.heap.size) w3 w5:=aW.of xI;have p3:=HS.out _ al5;have p3a:=λo=>HS.out (w5.alloc o) (al5.trans (aW.of (aA w5 o)))
     refine hK.out _ _ (p3) (λhHeld=>?_);clear hK K
    all_goals
     refine wpAnyH_take (i:=9) (oi:=⟨some 30,_,_,_,_,_⟩) (v:=?_) rfl (by kernel_rfl) (by kernel_rfl) (by kernel_rfl) (λ_ _ _ h=>h) (Or.inl ⟨by rfl,?_⟩) hHeld ?_;rotate_left
     ·intro w hSw;(try dsimp only at hSw);go_simp;try (with_reducible rfl)
     simp only[Act.put,List.setIfInBounds_toArray,List.set_cons_zero,List.set_cons_succ]
    rotate_left 1;refine wpAnyH_ready (rs:=[1,10]) (by kernel_rfl) (by simp) (AllReadyH.cons (o:=⟨some 22,_,_,_,_,_⟩) rfl (λK hK=>?_) (AllReadyH.cons (o:=⟨some 31,_,_,_,_,_⟩) rfl (λK hK=>?_) AllReadyH.nil));rotate_right 1
    rotate_left 1;go_simp;refine hK.out _ _ (hHeld) (λhHeld=>?_);clear hK K;refine wpAnyH_ready (rs:=[10]) (by kernel_rfl) (by simp) (AllReadyH.cons (o:=⟨some 31,_,_,_,_,_⟩) rfl (λK hK=>?_) AllReadyH.nil);rotate_right 1
    refine wpAnyH_ready (rs:=[10]) (by kernel_rfl) (by simp) (AllReadyH.cons (o:=⟨some 31,_,_,_,_,_⟩) rfl (λK hK=>?_) AllReadyH.nil)
    all_goals
     go_simp;refine hK.out _ _ (p3a _) (λhHeld=>?_);clear hK K
    rotate_left 2;refine wpAnyH_ready (rs:=[1]) (by kernel_rfl) (by simp) (AllReadyH.cons (o:=⟨some 22,_,_,_,_,_⟩) rfl (λK hK=>?_) AllReadyH.nil);go_simp;refine hK.out _ _ (hHeld) (λhHeld=>?_);clear hK K;rotate_right 2
    all_goals refine wpAnyH_ready (rs:=[11]) (by kernel_rfl) (by simp) (AllReadyH.cons (o:=⟨some 32,_,_,_,_,_⟩) rfl (λK hK=>?_) AllReadyH.nil)
    all_goals
     refine step_append_lies _ (by rfl) _ _ _ (by rfl) w2.heap.size 147 i0 _ 3 48 Tryz.underlying113 hi hz0 hz1' hz2 rfl (by omega) (.slice ak k ck) k _ (by rfl) ((own_below Xu.out xI).alloc _) ⟨w5.heap.size,0,none⟩ 1 1 [.string ⟨p.name.toArray⟩,.int .i64 p.base,.slice a5 p.aC.length c5] (by rfl) (by rfl) (vL (cs:=#[.string ⟨p.name.toArray⟩,.int .i64 p.base,.slice a5 p.aC.length c5]) (t:=147) (fr:=(0,0)) (aX w5 _)) (by simp[Value.oneCell']) (by omega) (by unfold maxLen;omega) (by omega) (by have:=xI.size;simp;omega) (w5.heap.size+1) (by simp) ?_;intro gg cap6 w6 hown6 nS Yi Yj;have hY6:=iW ((own_below Xu.out xI).alloc _) nS ((gZ w5 _ Y (by have:=xI.size;omega)).trans hY5) (by decide);have hG6:=iW ((own_below Xu.out xI).alloc _) nS ((gZ w5 _ _ (by have:=xI.size;omega)).trans ((xI.block _ aic).trans Uh.out)) (by decide);have r65:=(mF hY6).1.2.1;have z65:=(mF hY6).2.2.1;have al6:=(al5.trans (aW.of (aA w5 _))).trans (aW.grown nS λb hb q=>aeQ (by rw[<- hb];exact q));have p3:=HS.out _ al6;have p3a:=λv=>HS.out (w6.setCell ⟨Y,1,none⟩ v) (al6.trans (aW.set v λb hb=>by rw[hb];exact hne))
     refine hK.out _ _ (p3) (λhHeld=>?_);clear hK K
    all_goals
     refine wpAnyH_take (i:=12) (oi:=⟨some 33,_,_,_,_,_⟩) (v:=?_) rfl (by kernel_rfl) (by kernel_rfl) (by kernel_rfl) (λ_ _ _ h=>h) (Or.inl ⟨by rfl,?_⟩) hHeld ?_;rotate_left
     ·intro w hSw;(try dsimp only at hSw);go_simp;try (with_reducible rfl)
     simp only[Act.put,List.setIfInBounds_toArray,List.set_cons_zero,List.set_cons_succ]
    all_goals refine wpAnyH_ready (rs:=[13]) (by kernel_rfl) (by simp) (AllReadyH.cons (o:=⟨none,_,_,_,_,_⟩) rfl (λK hK=>?_) AllReadyH.nil)
    all_goals
     go_simp;refine hK.out _ _ (p3a _) (λhHeld=>?_);clear hK K
    all_goals refine wpAnyH_done (by kernel_rfl) ?_ _
    all_goals
     have hx5:RowK (ZK YA) (λb=>((P b/\b<w.heap.size)\/w2.heap.size<=b)/\some b≠(Value.slice ak k ck).ownBlock) w5 (.slice a5 p.aC.length c5) p.aC :=
      GQ HL2.out.1 (by rw[<- HL2.out.2.1];exact aie) HL2.out.2.2.1 (aW.of ((hbl.trans ((fJ.trans (xI.mono hz3)).mono DY)))) (λb hb _=>⟨.inr (by have h9:w3.heap.size<=b:=hb;omega),λq=>by have h8:=(Xu.out.lt b q.symm).2;have h9:w3.heap.size<=b:=hb;omega⟩) (λb hb hl=>⟨.inl ⟨hb,hl⟩,λq=>by have h8:=(Xu.out.lt b q.symm).1;omega⟩)
     obtain⟨q1,q2,q3⟩:=qL.round (K:=Dj) (Q:=λb=>(P b/\b<w.heap.size)\/w2.heap.size<=b) (wr:=wr) (kv:=.slice ak k ck) (Tp:=.slice (some ⟨gg,0,none⟩) (k+1) cap6) (acc:=ps.take k) (a:=p) (x:=.slice a5 p.aC.length c5) (l:=Ck) HES.out.2.2.2 ah8 (λq=>by rcases q with q|q<;>omega) HES.out.1 (by rw[HES.out.2.2.1];rw[<- HXS.out] at HOW;exact HOW.out) HES.out.2.1 hx5 (fJ.trans (xI.mono hz3)) (by rw[HES.out.2.2.1,HXS.out];exact hown6) nS rfl Yi 1 (.slice (some ⟨gg,0,none⟩) (k+1) cap6);rw[<- HL2.out.2.2.2] at q1;have HE:=ay (gy (jN w6 Y 1 _ _ (.slice (some ⟨gg,0,none⟩) (k+1) cap6) hY6) (gy q1 (gy ((qm w6 ⟨Y,1,none⟩ (w.heap.size+1) (.slice (some ⟨gg,0,none⟩) (k+1) cap6) (by show w.heap.size+1≠Y;omega)).trans hG6) (gy (q3 w.heap.size w (by omega) hbl) q2))));clear q1 q2 q3 hx5;clear p3 p3a al6 al5 r65 z65 r52 r53 hY6 hG6 nS hown6 Yi Yj hY5 hb5 t0 t1 t2 t3 hHeld;go_wp2_with fail
     go_roundw
     case rel=>exact⟨k+1,some ⟨gg,0,none⟩,cap6,by omega,by go_num,HE.out.1,HE.out.2.1,HE.out.2.2.1,HE.out.2.2.2.1,HE.out.2.2.2.2⟩
     case measure=>simp[intOf];omega
   ·obtain rfl:k=ps.length:=by omega
    have nK:decide ((ps.length:Int)<(ps.length:Int))=false:=dX (by omega);obtain⟨⟨t0,t1,t2,t3⟩,-⟩:=mF HYR.out;obtain⟨⟨c0,c1,c2,c3'⟩,f0,f1,f2,f3⟩:=mF aa0.out;have hP:=iM aa0.out (.string ⟨rn.toArray⟩) (.slice ak ps.length ck) (.int .i64 rb) (.slice a3 rl c3);have H8:=fZ hbl (by omega:w.heap.size<=w.heap.size+1) (.string ⟨rn.toArray⟩) (.slice ak ps.length ck) (.int .i64 rb) (.slice a3 rl c3)
    have hSG:agQ (λb=>(P b/\b<w.heap.size)\/w.heap.size<=b) (qA wr (w.heap.size+1) (.string ⟨rn.toArray⟩) (.slice ak ps.length ck) (.int .i64 rb) (.slice a3 rl c3)) (.slice ak ps.length ck) (.slice a3 rl c3) ps d.res.aC:=by
     have h7:=HQ.out;rw[zG] at h7;refine⟨((h7.row (R:=λb=>(P b/\b<w.heap.size)\/w2.heap.size<=b) (λ_ q=>.inr q) (λ_ q _=>q)).frame (xg _ _ _ _ λk hk=>by rcases hk with hk|hk<;>omega)).imp λb hb _=>by rcases hb with hb|hb;exact .inl hb;exact .inr (by omega),?_⟩
     have h81:oJ (λb=>(w1.heap.size<=b/\b≠Y)/\(b<w2.heap.size/\b≠Y)) w2 (.slice a3 rl c3) 8 rl cs:=HSL.out.imp λb hb hl=>⟨hb,hl,hb.2⟩
     have h82:=h81.frame (w':=wr) ⟨HES.out.2.2.2.1,λb hb hl=>HES.out.2.2.2.2 b hb.2 hl⟩
     have h8:oJ (λb=>w1.heap.size<=b/\b≠Y) wr (.slice a3 rl c3) 8 rl cs:=h82.imp λb hb _=>hb.1
     have h9:RowK (ZK YA) (λb=>(P b/\b<w.heap.size)\/w1.heap.size<=b) wr (.slice a3 rl c3) d.res.aC:=GQ (Q:=λb=>w1.heap.size<=b/\b≠Y) HCS.out.1 (by rw[<- HCS.out.2.1,Z9.out.2.2];exact h8) HCS.out.2.2 (aW.of hbl) (λb hb _=>.inr hb.1) (λb hb hl=>.inl ⟨hb,hl⟩)
     exact(h9.frame (xg _ _ _ _ λk hk=>by rcases hk with hk|hk<;>omega)).imp λb hb _=>by rcases hb with hb|hb;exact .inl hb;exact .inr (by omega)
    have HSG:=ay hSG;clear hSG;have HP:=ay hP;have HB:=ay H8;clear hP H8 HYR aa0 HO;go_wp2;change bodyPost _ _ _ _ _ (qA wr (w.heap.size+1) (.string ⟨rn.toArray⟩) (.slice ak ps.length ck) (.int .i64 rb) (.slice a3 rl c3));generalize qA wr _ _ _ _ _=w4 at *;obtain⟨⟨d0,d1,d2,d3⟩,-⟩:=mF HP.out;exact nI (v:=.agg #[.string ⟨rn.toArray⟩,.slice ak ps.length ck,.int .i64 rb,.slice a3 rl c3]) (by simp[results,Tryz.results39,go_sem,d0,d1,d2,d3]) rfl ⟨ak,ck,a3,c3,by rw[Z9.out.1,Z9.out.2.1,Z9.out.2.2,hps],by rw[hps,Z9.out.2.2];exact HSG.out,HB.out⟩
theorem AQ (l:List ZD)(d:ZD)(nm:aH):gU (l++[d]) nm=(gU l nm).or (if d.res.name=nm then some d.params.length else none):=by
 unfold gU;rw[List.find?_append]
 cases l.find? λd=>decide (d.res.name=nm) with
 | some x=>rfl
 | none =>
  rw[Option.none_or,List.find?_cons,List.find?_nil]
  by_cases h:d.res.name=nm
  ·rw[jV h,bR h];rfl
  ·rw[dX h,aU h];rfl
theorem LP (h:nm ∉ l.map (λd=>d.res.name)):gU l nm=none:=by
 unfold gU;rw[List.find?_eq_none.2 λd hd=>by simpa using λq=>h (by rw[<- q];exact List.mem_map_of_mem hd)]
 rfl
theorem LQ (h:nm∈l.map (λd=>d.res.name)):(gU l nm).isSome=true:=by
 obtain⟨d,hd,rfl⟩:=List.mem_map.1 h;unfold gU;rw[Option.isSome_map,List.find?_isSome];exact⟨d,hd,by simp⟩
structure qC (ml:ML) (l:List ZD):Prop where
 ar:∀ nm,aen (oh ml nm) (gU l nm)
 has:∀ nm,lJ ml nm=decide (nm∈l.map λd=>d.res.name)
theorem qC.nil:qC [] []:=⟨λ_=>trivial,λ_=>rfl⟩
theorem qC.same (h:qC ml l)(hd:lJ ml d.res.name=true):qC ml (l++[d]):=by
 have hm:d.res.name∈l.map λd=>d.res.name:=by
  have:=h.has d.res.name;rw[hd] at this;exact PY this.symm
 refine⟨λnm=>?_,λnm=>?_⟩
 ·rw[AQ]
  by_cases q:d.res.name=nm
  ·have:=LQ hm
   rw[<- q];obtain⟨n,hn⟩:=Option.isSome_iff_exists.1 this;rw[hn,Option.some_or,<- hn];exact h.ar _
  ·rw[aU q,Option.or_none]
   exact h.ar nm
 ·rw[h.has,xZ]
  apply decide_eq_decide.2
  rw[List.mem_append]
  constructor
  ·exact .inl
  ·rintro(q|q)
   ·exact q
   ·obtain rfl:nm=d.res.name:=by simpa using q
    exact hm
theorem qC.ins (h:qC ml l)(hd:lJ ml d.res.name=false)(s b u:Value)(a:Option Addr)(c:Nat):qC (oW ml d.res.name [s,.slice a d.params.length c,b,u]) (l++[d]):=by
 have hm:d.res.name ∉ l.map λd=>d.res.name:=by
  have:=h.has d.res.name;rw[hd] at this;exact of_decide_eq_false this.symm
 have hg:∀ nm,oh (oW ml d.res.name [s,.slice a d.params.length c,b,u]) nm=if nm=d.res.name then some [s,.slice a d.params.length c,b,u] else oh ml nm:=Oi _ hd
 refine⟨λnm=>?_,λnm=>?_⟩
 ·rw[hg,AQ]
  by_cases q:nm=d.res.name
  ·subst q
   rw[bR rfl,bR rfl,LP hm,Option.none_or];exact⟨s,a,c,b,u,rfl⟩
  ·rw[aU q,aU (λe=>q e.symm),Option.or_none]
   exact h.ar nm
 ·rw[<- wQ,hg,xZ]
  by_cases q:nm=d.res.name
  ·subst q
   rw[bR rfl];exact(jV (List.mem_append_right _ (by simp))).symm
  ·rw[aU q,wQ,h.has]
   apply decide_eq_decide.2
   rw[List.mem_append]
   constructor
   ·exact .inl
   ·rintro(e|e)
    ·exact e
    ·exact absurd (by simpa using e) q
theorem aa2 {l:ML}(hw:xR 4 l)(x:aH):∃ v0 v1 v2 v3:Value,(∀ W e w',BU l x W e w'->e=.returned (.tuple #[.agg #[v0,v1,v2,v3],.bool (lJ l x)])/\Below W.heap.size W w')/\∀ u∈[v0,v1,v2,v3],u.oneCell'=true:=by
 rw[<- wQ]
 cases hg:oh l x with
 | none =>
  refine⟨.string ⟨#[]⟩,.slice none 0 0,.int .i64 0,.slice none 0 0,λW e w' q=>?_,by simp[Value.oneCell']⟩;unfold BU at q;rw[hg] at q;exact q
 | some vs =>
  have hp:∃ p∈l,p.2=vs:=by
   unfold oh at hg;obtain⟨p,hp,hq⟩:=Option.map_eq_some_iff.1 hg;exact⟨p,List.mem_of_find?_eq_some hp,hq⟩
  obtain⟨p,hp,rfl⟩:=hp;obtain⟨a,b,c,d,he⟩:=acH (hw.wid p hp);refine⟨a,b,c,d,λW e w' q=>?_,by rw[<- he];exact hw.one p hp⟩;unfold BU at q;rw[hg,he] at q;exact q
theorem Sr (w:World):Calls Tryz.prog 33 #[] w λe w'=>e=.returned (.pointer (some ⟨w.heap.size,0,none⟩))/\w'=w.alloc (.cells #[.slice none 0 0] 169):=by
 go_enter Tryz.func33,Tryz.ntmps33;go_wp2;go_ret;exact⟨rfl,rfl⟩
def xV (f:Fl)(w:World)(e:Ending)(w':World):Prop:=e=.returned (.agg #[.int .i64 (DZ f),.int .i64 (F8 f)])/\Below w.heap.size w w'
def ZP.check (p:ZP)(own:aH)(ms:List aH):Fl:=if (p.right && (dw own && Az [] ms))=true then p.gY own (λm=>decide (m∈ms)) (λ_ _=>none) else some (10,0)
theorem gK {u:Value}(h:w.heap[b]?=some (.cells #[u,v] 31 (0,0))):(w.cell? ⟨b,0,none⟩=some u/\w.cell? ⟨b,1,none⟩=some v)/\w.frozen? ⟨b,0,none⟩=false/\w.frozen? ⟨b,1,none⟩=false:=by
 refine⟨⟨?_,?_⟩,?_,?_⟩
 ·rw[aZ h];rfl
 ·rw[aZ h];rfl
 ·simp[World.frozen?,h]
 ·simp[World.frozen?,h]
def IQ (w:World)(b:Nat)(v0 v1:Value):World:=(w.setCell ⟨b,0,none⟩ v0).setCell ⟨b,1,none⟩ v1
theorem uW {w0:World}(h:Below B w0 w)(hb:B<=b)(v0 v1:Value):Below B w0 (IQ w b v0 v1):=(h.setCell hb _).setCell hb _
theorem uX {c0 c1:Value}{T:TypeId}(h:w.heap[b]?=some (.cells #[c0,c1] T (0,0)))(v0 v1:Value):(IQ w b v0 v1).heap[b]?=some (.cells #[v0,v1] T (0,0)) :=
 jN _ b 1 _ _ v1 (jN w b 0 _ _ v0 h)
theorem zB:∀ (l:List ZD) (f:Fl) (seen:List aH),bq f->bq (gV f seen l)
 | [],f,seen,h=>h
 | d :: l,f,seen,h=>zB l _ _ (h.or (by split;exact bq.some (by decide);exact bq.none))
structure ZP.qF (p:ZP):Prop where
 fit:p.fit
 text:p.text.length<=1099511627776
 few:p.defs.length<=1000
 defs:∀ d∈p.defs,d.qF
