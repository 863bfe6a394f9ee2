/- Walks and plain laws, without a condition. -/
import Derived.Test.YtmhdgeekclhbbaaGreatDoorE14
import Derived.IntWalk
set_option maxHeartbeats 16000000
set_option maxRecDepth 100000
set_option linter.unusedVariables false
set_option linter.unusedSimpArgs false
namespace Go.Proofs.YtmhdgeekclhbbaaGreatDoor
open Go.RowKit Go
variable{aj:List Nd}{ah:List Tok}{S:aH}{p:lD}{w:World}{v:Value}{C e j g n cap:Nat}{P:Nat->Prop}
theorem Tryz.X5:(Tryz.prog.info? 68).map (λi=>(i.zero,i.size,i.bytes))=some (some (.agg #[.string ⟨#[]⟩,.int .i64 0,.slice none 0 0,.int .i64 0,.int .i64 0]),5,64):=by kernel_rfl
theorem Tryz.QB:∀ args w,(callFunc 107 args).run Tryz.prog w=.ok (.enter 107 args) w:=Go.Proofs.enters_of Tryz.func107 (by kernel_rfl) rfl
def ace (d:DD)(w:World)(e:Ending)(w':World):Prop :=
 ∃ ap cp ac cc am wn cm ae ce,e=.returned (.agg #[.bool d.pub,.string ⟨d.res.name.toArray⟩,.slice ap d.params.length cp,.int .i64 d.res.base,.slice ac d.res.aC.length cc,.int .i64 d.body.op,.string ⟨d.body.name.toArray⟩,.string ⟨d.body.module.toArray⟩,.bool (decide (d.body.num<0)),.slice am wn cm,.bool d.body.yes,.slice ae d.body.aA.length ce,.int .i64 d.body.at_,.int .i64 d.res.at_,.int .i64 d.res.bare]) /\
  DA.inn (λb=>w.heap.size<=b) w' d ⟨.slice ap d.params.length cp,.slice ac d.res.aC.length cc,.slice am wn cm,.slice ae d.body.aA.length ce⟩/\Below w.heap.size w w'
def I4 (pb:Bool)(nm:aH)(pv:Value)(base:Nat)(cv:Value)(at_:Nat)(bare:Int):Array Value :=
 #[.bool pb,.string ⟨nm.toArray⟩,pv,.int .i64 base,cv,.int .i64 0,.string ⟨#[]⟩,.string ⟨#[]⟩,.bool false,.slice none 0 0,.bool false,.slice none 0 0,.int .i64 0,.int .i64 at_,.int .i64 bare]
theorem acf {B:Nat}{tv nv:Value}(E:RdE B tv nv ah aj)(d:dY)(u:Nat)(ho:d.ok ah u)(hl:u+d.pt.lv<=ah.length)(i:Nat)(w:World)(hr:pK aj i u d.pt)(h:bE B w (.agg #[tv,nv]) ah aj)(hB:B<=w.heap.size) :
  Calls Tryz.prog 62 #[.agg #[tv,nv],.int .i64 i] w (ace (d.dd ah u) w):=by
 obtain⟨ip,aiE,aiF,aiG,aiH⟩:=info_parts Tryz.X5;have ent:=Tryz.QB;rw[d.Ir] at hr hl;obtain⟨ks,hn,hk⟩:=fG hr
 have hlv:u+cO (d.its.map It.pt)<=ah.length:=by rw[PT.lv] at hl;exact hl
 have K:=acd ho hlv hk
 obtain⟨k0,hq0,hl0,hu0⟩:=K.first
 obtain⟨k1,hq1,hl1,hu1⟩:=K.name;obtain⟨k2,hq2,hr2,hu2⟩:=K.body;have ajD:=K.many;have afI:=K.pub;have hks:=E.few _ (List.mem_of_getElem? hn)
 obtain⟨a,ha1,ha2,ha3,Rx⟩:∃ a:TyA,(d.dd ah u).res.base=a.base/\(d.dd ah u).res.aC=a.aC/\(d.dd ah u).res.bare=a.bare/\Hid (∀ W,bE B W (.agg #[tv,nv]) ah aj->B<=W.heap.size->Calls Tryz.prog 106 #[.agg #[tv,nv],.int .i64 i] W (Nk a W)):=⟨⟨_,_,_⟩,rfl,rfl,rfl,ay (λW hT hW=>ad3 E d u ho ks hlv i hn hk W hT hW)⟩
 have hdd:d.dd ah u=⟨d.pub,gI ah u d.its,⟨(dh ah (d.G5 u+1)).text,a.base,a.aC,(dh ah (d.G5 u+1)).place,a.bare⟩,d.body.pe ah (d.at3 u)⟩:=by
  rw[<- ha1,<- ha2,<- ha3,d.ab1];rfl
 rw[hdd];clear hdd ha1 ha2 ha3
 obtain⟨mG,acg⟩:∃ mG,mG=gI ah u d.its:=⟨_,rfl⟩
 rw[<- acg];have HPS:=ay acg;clear acg;have Vq:Hid (∀ W,bE B W (.agg #[tv,nv]) ah aj->B<=W.heap.size->Calls Tryz.prog 108 #[.agg #[tv,nv],.int .i64 k2] W (abv (d.body.pe ah (d.at3 u)) W)):=ay (λW hT hW=>(E.exprs false d.body (d.at3 u) ho.2.2.2.2.2.2 hu2 k2 W hr2 hT hW).mono λ_ _ h=>h.s)
 have ahr:Hid (∀ (t:gN) (v:Nat),(It.par t,v)∈eB u d.its->∀ (m:Nat) (W:World),pK aj m v t.par->bE B W (.agg #[tv,nv]) ah aj->B<=W.heap.size->Calls Tryz.prog 107 #[.agg #[tv,nv],.int .i64 m] W (Uh (t.xQ ah v) W)):=ay (λt v hm m W hrm hT hW=>by
  have hend:=vF _ _ _ hm
  exact Uk E t v (afH ho hm) (by simp only[It.pt] at hend;omega) m W hrm hT hW)
 have Ry:Hid (∀ W,bE B W (.agg #[tv,nv]) ah aj->B<=W.heap.size->Calls Tryz.prog 61 #[.agg #[tv,nv],.int .i64 k1] W λe w'=>e=.returned (qN (dh ah (d.G5 u+1)))/\Below W.heap.size W w'):=ay (λW hT hW=>by
  have:=lJ B tv nv ah aj k1 (d.G5 u+1) W hT hW hl1 hu1;have e:=j3 hu1;rw[AB hu1] at e;rw[kE e] at this
  exact this)
 have Rw:Hid (∀ W,bE B W (.agg #[tv,nv]) ah aj->B<=W.heap.size->Calls Tryz.prog 105 #[.agg #[tv,nv],.int .i64 k0] W λe w'=>e=.returned (.string (if d.pub=true then ⟨#[112,117,98]⟩ else ⟨#[102,117,110]⟩))/\Below W.heap.size W w'):=ay (λW hT hW=>by
  have:=yH B tv nv ah aj k0 u W hT hW hl0 hu0;have e:=j3 hu0;rw[AB hu0] at e;rw[kE e] at this
  have e2:(dh ah u).text=if d.pub=true then CQ else JW:=by
   cases hd:d.pub with
   | true=>exact ho.1 hd
   | false =>
    have h1:=ho.2.1;unfold dY.G5 dY.lead at h1;rw[hd] at h1;simp only[Bool.false_eq_true,if_false,cO,qp] at h1;exact h1
  rw[e2] at this;unfold dX at this
  cases hd:d.pub<;>(rw[hd] at this;exact this))
 obtain⟨hlk,hrp⟩:=BX _ _ _ hk;have HRP:=ay hrp;have HLK:Hid (ks.length=(eB u d.its).length):=ay (by rw[vE];exact hlk);have HRD:=ay (IQ ah d.its u)
 have hpl:(gI ah u d.its).length<=1000000:=by
  have:=IU ah d.its u;simp only at hks;omega
 have HIT:=ay (show d.its.length=ks.length from hlk.symm);generalize d.body.pe ah (d.at3 u)=x at Vq |-;generalize hpb:d.pub=pb at hq1 Rw |-;generalize hqq:(if pb=true then 2 else 1)=q at hq1;have HQ:=ay hqq;unfold qN dX at Ry;generalize dh ah (d.G5 u+1)=t at Ry |-;obtain⟨tk,tl,tt,tp⟩:=t;simp only at Ry |-;have HT:=ay h;obtain⟨hi,hni⟩:=qm hn;obtain⟨a1,c1,_,_,e⟩:=h.slices;obtain⟨b,off,cap,kv,rfl,hb,y0,y1,y2,hkv⟩:=h.node hi
 obtain⟨rfl,-⟩:tv=.slice a1 ah.length c1/\_:=by simpa using e
 rw[hni] at hkv;simp only at hkv;obtain⟨ak,ck,rfl,_,zu⟩:=hkv.form;obtain⟨bk,ok,rfl,hbk,hkc⟩:=zu (by omega);obtain⟨aiI,aeH⟩:=qm hq0;obtain⟨aiJ,aeI⟩:=qm hq1;obtain⟨aiK,aeJ⟩:=qm hq2;have z0:=hkc 0 aiI;have z1:=hkc q aiJ;have z2:=hkc (ks.length - 2) aiK;rw[aeH,qp] at z0;rw[aeI] at z1;rw[aeJ] at z2;have YQ:=ay hkc;have dD:=((bY w.heap.size w).alloc (bI _) (.cells #[.slice a1 ah.length c1,.slice (some ⟨b,off,none⟩) aj.length cap] 126)).alloc (by simp) (.cells #[.bool false,.string ⟨#[]⟩,.slice none 0 0,.int .i64 0,.slice none 0 0,.int .i64 0,.string ⟨#[]⟩,.string ⟨#[]⟩,.bool false,.slice none 0 0,.bool false,.slice none 0 0,.int .i64 0,.int .i64 0,.int .i64 0] 66);have g0:=(iB _ (.cells #[.bool false,.string ⟨#[]⟩,.slice none 0 0,.int .i64 0,.slice none 0 0,.int .i64 0,.string ⟨#[]⟩,.string ⟨#[]⟩,.bool false,.slice none 0 0,.bool false,.slice none 0 0,.int .i64 0,.int .i64 0,.int .i64 0] 66) w.heap.size (by simp)).trans (aZ w (.cells #[.slice a1 ah.length c1,.slice (some ⟨b,off,none⟩) aj.length cap] 126));have g1:=aZ (w.alloc (.cells #[.slice a1 ah.length c1,.slice (some ⟨b,off,none⟩) aj.length cap] 126)) (.cells #[.bool false,.string ⟨#[]⟩,.slice none 0 0,.int .i64 0,.slice none 0 0,.int .i64 0,.string ⟨#[]⟩,.string ⟨#[]⟩,.bool false,.slice none 0 0,.bool false,.slice none 0 0,.int .i64 0,.int .i64 0,.int .i64 0] 66);rw[oU] at g1;have Y2:=jy dD y2;have Z0:=jy dD z0;have Z1:=jy dD z1;have Z2:=jy dD z2
 have hiI:(i:Int)<(aj.length:Int):=by omega
 have aj5:(0:Int)<(ks.length:Int):=by omega
 have aj6:(q:Int)<(ks.length:Int):=by omega
 clear h e y0 y1 y2 z0 z1 z2 hkv zu hkc hn hni hlk hrp hk hr hlv hl ho hq0 hq1 hq2 aeH aeI aeJ hl0 hl1 hr2 hu0 hu1 hu2 afI K E hpb hqq;go_enter Tryz.func62,Tryz.ntmps62;obtain⟨r0,r1⟩:=mP g0
 go_upto_region 2 with (fail)
 generalize (w.alloc _).alloc _=w2 at g0 g1 dD Y2 Z0 Z1 Z2 r0 r1 |-;have hz2:=dD.size;have hlt2:w.heap.size+1<w2.heap.size:=(bU g1).1
 have hne0:w.heap.size≠w2.heap.size:=by omega
 have hne1:bk≠w2.heap.size:=by omega
 have YS:=ay (λW (hb:Below w2.heap.size w2 W)=>(Rw.out W (HT.out.below ((dD.trans (hb.mono hz2)).mono hB)) (by have:=hb.size;omega)).mono (R':=λe w'=>e=.returned (.string (if pb=true then ⟨#[112,117,98]⟩ else ⟨#[102,117,110]⟩))/\Below w2.heap.size w2 w'/\Below W.heap.size W w') λe w' h=>⟨h.1,hb.trans (h.2.mono hb.size),h.2⟩)
 go_cut [6] (λp wc=>∃ X:Nat,p=.pointer (some ⟨X,0,none⟩)/\wc.heap[X]?=some (.cells (I4 pb [] (.slice none 0 0) 0 (.slice none 0 0) 0 0) 66 (0,0))/\Below w2.heap.size w2 wc/\w2.heap.size<=X)
 case first =>
  cases pb with
  | true =>
   simp only[if_true] at YS
   go_region_held3 (λw'=>w'.cell? ⟨w.heap.size,0,none⟩=some (.slice a1 ah.length c1)/\w'.cell? ⟨w.heap.size,1,none⟩=some (.slice (some ⟨b,off,none⟩) aj.length cap)/\w'.cell? ⟨bk,ok,none⟩=some (.int .i64 k0))
    (first|(with_reducible exact p3)|((try dsimp only);with_reducible exact iq ((qg w3 w2.heap.size _ _ _ _ _ _ _ _ _ _ _ _ _ _ _ hne0).trans p3.1) (iq ((qg w3 w2.heap.size _ _ _ _ _ _ _ _ _ _ _ _ _ _ _ hne0).trans p3.2.1) ((qg w3 w2.heap.size _ _ _ _ _ _ _ _ _ _ _ _ _ _ _ hne1).trans p3.2.2)))|(go_keep;done))
    (first|(go_at_call 105;refine(YS.out _ ?_).mono ?_;(first|exact(bY _ _).drew|exact((bY _ _).alloc (bI _) _).drew);rintro e w3 ⟨rfl,hq3,hb3⟩;have p3:=iq (jy hq3 r0) (iq (jy hq3 r1) (jy hq3 Z0));try (have Iz:=(hb3.block w2.heap.size (by simp)).trans (aZ w2 (.cells #[.bool false,.string ⟨#[]⟩,.slice none 0 0,.int .i64 0,.slice none 0 0,.int .i64 0,.string ⟨#[]⟩,.string ⟨#[]⟩,.bool false,.slice none 0 0,.bool false,.slice none 0 0,.int .i64 0,.int .i64 0,.int .i64 0] 66));obtain⟨⟨e0,e1,e2,e3,e4⟩,⟨e5,e6,e7,e8,e9⟩,⟨e10,e11,e12,e13,e14⟩,ez⟩:=gZ Iz)))
   ·clear r0 r1 Z0 p3
    go_wp2_with fail
    go_meet
    exact⟨w3.heap.size,rfl,aZ _ _,hq3.alloc hq3.size _,hq3.size⟩
   ·clear r0 r1 Z0 p3
    go_wp2_with fail
    go_meet
    exact⟨w2.heap.size,rfl,IZ Iz _ _ _ _ _ _ _ _ _ _ _ _ _ _ _,yw hq3 (bI _) _ _ _ _ _ _ _ _ _ _ _ _ _ _ _,bI _⟩
  | false =>
   simp only[Bool.false_eq_true,if_false] at YS
   go_region_held3 (λw'=>w'.cell? ⟨w.heap.size,0,none⟩=some (.slice a1 ah.length c1)/\w'.cell? ⟨w.heap.size,1,none⟩=some (.slice (some ⟨b,off,none⟩) aj.length cap)/\w'.cell? ⟨bk,ok,none⟩=some (.int .i64 k0))
    (first|(with_reducible exact p3)|((try dsimp only);with_reducible exact iq ((qg w3 w2.heap.size _ _ _ _ _ _ _ _ _ _ _ _ _ _ _ hne0).trans p3.1) (iq ((qg w3 w2.heap.size _ _ _ _ _ _ _ _ _ _ _ _ _ _ _ hne0).trans p3.2.1) ((qg w3 w2.heap.size _ _ _ _ _ _ _ _ _ _ _ _ _ _ _ hne1).trans p3.2.2)))|(go_keep;done))
    (first|(go_at_call 105;refine(YS.out _ ?_).mono ?_;(first|exact(bY _ _).drew|exact((bY _ _).alloc (bI _) _).drew);rintro e w3 ⟨rfl,hq3,hb3⟩;have p3:=iq (jy hq3 r0) (iq (jy hq3 r1) (jy hq3 Z0));try (have Iz:=(hb3.block w2.heap.size (by simp)).trans (aZ w2 (.cells #[.bool false,.string ⟨#[]⟩,.slice none 0 0,.int .i64 0,.slice none 0 0,.int .i64 0,.string ⟨#[]⟩,.string ⟨#[]⟩,.bool false,.slice none 0 0,.bool false,.slice none 0 0,.int .i64 0,.int .i64 0,.int .i64 0] 66));obtain⟨⟨e0,e1,e2,e3,e4⟩,⟨e5,e6,e7,e8,e9⟩,⟨e10,e11,e12,e13,e14⟩,ez⟩:=gZ Iz)))
   ·clear r0 r1 Z0 p3
    go_wp2_with fail
    go_meet
    exact⟨w3.heap.size,rfl,aZ _ _,hq3.alloc hq3.size _,hq3.size⟩
   ·clear r0 r1 Z0 p3
    go_wp2_with fail
    go_meet
    exact⟨w2.heap.size,rfl,IZ Iz _ _ _ _ _ _ _ _ _ _ _ _ _ _ _,yw hq3 (bI _) _ _ _ _ _ _ _ _ _ _ _ _ _ _ _,bI _⟩
 case rest =>
  obtain⟨X,rfl,hX,hbc,hXl⟩:=hcut
  obtain⟨w4,rfl⟩:∃ w4:World,w4=wc:=⟨_,rfl⟩
  have hX4:=(bU hX).1;have G0:=(hbc.block w.heap.size (by omega)).trans g0;have G1:=(hbc.block (w.heap.size+1) hlt2).trans g1;have hb4:Below w.heap.size w w4:=dD.trans (hbc.mono hz2);have D7:=hbc.size;have Z1':=jy hbc Z1;obtain⟨⟨d0,d1,d2,d3,d4⟩,⟨d5,d6,d7,d8,d9⟩,⟨d10,d11,d12,d13,d14⟩,dz⟩:=gZ hX;clear Z0 Z1 r0 r1 YS
  go_upto_if 26 with fail
  go_cut [7] (λv wc=>v=.int .i64 q/\wc=w4)
  case first =>
   cases pb
   all_goals
    have hq:=HQ.out;simp only[if_true,Bool.false_eq_true,if_false] at hq;subst hq;go_wp2
    go_meet
    exact⟨rfl,rfl⟩
  case rest =>
   obtain⟨rfl,rfl⟩:=hcut
   obtain⟨w4,rfl⟩:∃ w4:World,w4=wc:=⟨_,rfl⟩
   obtain⟨r0,r1⟩:=mP G0;have HK':=ay (λW (hb:Below w4.heap.size w4 W)=>(Ry.out W (HT.out.below ((hb4.trans (hb.mono hb4.size)).mono hB)) (by have:=hb4.size;have:=hb.size;omega)).mono (R':=λe w'=>e=.returned (.agg #[.int .i64 tk,.string ⟨tl.toArray⟩,.string ⟨tt.toArray⟩,.int .i64 tp])/\Below w4.heap.size w4 w'/\Below W.heap.size W w') λe w' h=>⟨h.1,hb.trans (h.2.mono hb.size),h.2⟩);clear d0 d1 d2 d3 d4 d5 d6 d7 d8 d9 d10 d11 d12 d13 d14 dz
   go_upto_region 6 with fail
   go_cut [8] (λp wc=>∃ Y:Nat,p=.pointer (some ⟨Y,0,none⟩)/\wc.heap[Y]?=some (.cells #[.int .i64 tk,.string ⟨tl.toArray⟩,.string ⟨tt.toArray⟩,.int .i64 tp] 131 (0,0))/\Below w4.heap.size w4 wc)
   case first =>
    go_region_held3 (λw'=>w'.cell? ⟨w.heap.size,0,none⟩=some (.slice a1 ah.length c1)/\w'.cell? ⟨w.heap.size,1,none⟩=some (.slice (some ⟨b,off,none⟩) aj.length cap)/\w'.cell? ⟨bk,ok+q,none⟩=some (.int .i64 k1))
     (first|go_keep|exact p3|exact⟨(dw w3 w4.heap.size _ _ _ _ (by omega)).trans p3.1,(dw w3 w4.heap.size _ _ _ _ (by omega)).trans p3.2.1,(dw w3 w4.heap.size _ _ _ _ (by omega)).trans p3.2.2⟩)
     (first|(go_at_call 61;refine(HK'.out _ ?_).mono ?_;(first|exact(bY _ _).drew|exact((bY _ _).alloc (bI _) _).drew);rintro e w3 ⟨rfl,hq3,hb3⟩;have p3:=iq (jy hq3 r0) (iq (jy hq3 r1) (jy hq3 Z1'));try (have Iz:=(hb3.block w4.heap.size (by simp)).trans (aZ w4 (.cells #[.int .i64 0,.string ⟨#[]⟩,.string ⟨#[]⟩,.int .i64 0] 131));obtain⟨tz0,tz1,tz2,tz3,tz4⟩:=qd Iz)))
    ·clear r0 r1 Z1' p3
     go_wp2_with fail
     go_meet
     exact⟨w3.heap.size,rfl,aZ _ _,hq3.alloc hq3.size _⟩
    ·obtain⟨S3,So,_⟩:=Af Iz (.int .i64 tk) (.string ⟨tl.toArray⟩) (.string ⟨tt.toArray⟩) (.int .i64 tp)
     clear r0 r1 Z1' p3 tz0 tz1 tz2 tz3 tz4;go_wp2_with fail
     go_meet
     exact⟨w4.heap.size,rfl,S3,(((hq3.setCell (bI _) _).setCell (bI _) _).setCell (bI _) _).setCell (bI _) _⟩
   case rest =>
    obtain⟨Y,rfl,hY,ad5⟩:=hcut
    obtain⟨w5,rfl⟩:∃ w5:World,w5=wc:=⟨_,rfl⟩
    have hX5:=(ad5.block X hX4).trans hX;have hb5:Below w2.heap.size w2 w5:=hbc.trans (ad5.mono D7);have aj7:X<w5.heap.size:=zI hX4 ad5.size;obtain⟨f2,f3⟩:=wB hY;obtain⟨⟨d0,d1,d2,d3,d4⟩,⟨d5,d6,d7,d8,d9⟩,⟨d10,d11,d12,d13,d14⟩,dz⟩:=gZ hX5;clear hX hbc ad5 Z1' r0 r1 HK' hb4 G0 G1 hY
    go_upto_region 7 with fail
    go_cut [] (λwc=>wc.heap[X]?=some (.cells (I4 pb tt (.slice none 0 0) 0 (.slice none 0 0) tp 0) 66 (0,0))/\Below w2.heap.size w2 wc)
    case first =>
     go_region
     all_goals
      go_wp2_with fail
      go_meet
      have T1:=kG w5 X 1 _ _ (.string ⟨tt.toArray⟩) hX5;have T2:=kG _ X 13 _ _ (.int .i64 tp) T1;exact⟨T2,((hb5.setCell hXl _).setCell hXl _).drew⟩
    case rest =>
     obtain⟨hX6,hb6⟩:=hcut
     obtain⟨w6,rfl⟩:∃ w6:World,w6=wc:=⟨_,rfl⟩
     have hz6:=hb6.size;have aiL:=(bU hX6).1;have XZ:Below w.heap.size w w6:=dD.trans (hb6.mono hz2);have G0:=(hb6.block w.heap.size (by omega)).trans g0;obtain⟨r0,r1⟩:=mP G0;have HAW:=ay (Rx.out w6 (HT.out.below (XZ.mono hB)) (iY hB XZ.size));clear d0 d1 d2 d3 d4 d5 d6 d7 d8 d9 d10 d11 d12 d13 d14 dz f2 f3 hX5 hb5 Rx;go_wp2_with (go_at_call 106;refine HAW.out.mono ?_);rintro e w7 ⟨ao,cc,rfl,hrow,BI⟩;have hX7:=(BI.block X aiL).trans hX6;obtain⟨⟨d0,d1,d2,d3,d4⟩,⟨d5,d6,d7,d8,d9⟩,⟨d10,d11,d12,d13,d14⟩,dz⟩:=gZ hX7;clear r0 r1 HAW
     go_upto_region 9 with fail
     have T1:=kG w7 X 3 _ _ (.int .i64 a.base) hX7;have T2:=kG _ X 4 _ _ (.slice ao a.aC.length cc) T1;have T3:=kG _ X 14 _ _ (.int .i64 a.bare) T2;have hX8:(((w7.setCell ⟨X,3,none⟩ (.int .i64 a.base)).setCell ⟨X,4,none⟩ (.slice ao a.aC.length cc)).setCell ⟨X,14,none⟩ (.int .i64 a.bare)).heap[X]?=some (.cells (I4 pb tt (.slice none 0 0) a.base (.slice ao a.aC.length cc) tp a.bare) 66 (0,0)):=T3;have ahs:Below w2.heap.size w2 w7:=hb6.trans (BI.mono hz6);have lF:Below w2.heap.size w2 (((w7.setCell ⟨X,3,none⟩ (.int .i64 a.base)).setCell ⟨X,4,none⟩ (.slice ao a.aC.length cc)).setCell ⟨X,14,none⟩ (.int .i64 a.bare)):=((ahs.setCell hXl _).setCell hXl _).setCell hXl _
     have hs:∀ (W:World) (j:Nat) (v:Value),bA (λb=>w6.heap.size<=b) W (W.setCell ⟨X,j,none⟩ v):=λW j v=>bA.set v λb hb=>by show b≠X;omega
     have ach:=hrow.frame (((hs w7 3 (.int .i64 a.base)).trans (hs _ 4 (.slice ao a.aC.length cc))).trans (hs _ 14 (.int .i64 a.bare)))
     have hz8:w6.heap.size<=(((w7.setCell ⟨X,3,none⟩ (.int .i64 a.base)).setCell ⟨X,4,none⟩ (.slice ao a.aC.length cc)).setCell ⟨X,14,none⟩ (.int .i64 a.bare)).heap.size:=by simpa using BI.size
     clear T1 T2 T3 hX7 hX6 hb6 BI ahs hs hrow d0 d1 d2 d3 d4 d5 d6 d7 d8 d9 d10 d11 d12 d13 d14 dz G0 XZ;generalize ((w7.setCell _ _).setCell _ _).setCell _ _=wl at hX8 lF ach hz8 |-
     have aiM:X<wl.heap.size:=by omega
     have hzl:=lF.size;have G0:=(lF.block w.heap.size (by omega)).trans g0;have G1:=(lF.block (w.heap.size+1) hlt2).trans g1;go_wp2
     go_loopw [51] (λq' wr=>∃ (j n:Nat) (ap:Option Addr) (cp:Nat),j<=ks.length/\n=(gI ah u (d.its.take j)).length/\q'=.int .i64 j/\bA (λb=>b<wl.heap.size/\b≠X) wl wr/\wr.heap[X]?=some (.cells (I4 pb tt (.slice ap n cp) a.base (.slice ao a.aC.length cc) tp a.bare) 66 (0,0))/\gP (FK XA) wl.heap.size 68 wr (.slice ap n cp) (gI ah u (d.its.take j))/\Below w2.heap.size w2 wr) (λq' _=>ks.length - (intOf q').toNat)
     case atStart=>exact⟨0,0,none,0,mD _,by rw[List.take_zero,gI];rfl,rfl,bA.refl _ _,hX8,by rw[List.take_zero,gI];exact gP.nil _ _ _ _,lF⟩
     case round =>
      obtain⟨j,n,ap,cp,hj,hn,rfl,fU,hXr,hrow,hbl⟩:=hrel;have aht:=fU.1;have hr0:=(fU.2 w.heap.size ⟨by omega,by omega⟩ (by omega)).trans G0;have Np:Below w.heap.size w wr:=dD.trans (hbl.mono hz2);have aiN:=IU ah (d.its.take j) u;rw[<- hn,qX] at aiN
      by_cases hjl:j<ks.length
      ·
       have hx:=(Np.cell (p:=⟨bk,ok+j,none⟩) (by show bk<_;omega)).trans (YQ.out j hjl)
       have hjp:j<(eB u d.its).length:=by have:=HLK.out;omega
       have hrep:=HRP.out j hjl hjp;have hst:=HRD.out j hjp;have hmem:=oQ hjp;generalize (eB u d.its)[j]=it at hrep hst hmem;obtain⟨it,v⟩:=it;simp only at hrep hst;generalize ks[j]=qk at hx hrep;obtain⟨m,xn,rfl,hnx,hkx⟩:=Qy hrep;obtain⟨hm,XY⟩:=qm hnx;obtain⟨b',off',jc,kv',e',_,y0,_,_,_⟩:=HT.out.node hm
       obtain⟨⟨rfl,rfl⟩,rfl⟩:(b=b'/\off=off')/\cap=jc:=by simpa using e'
       rw[XY] at y0;have y0':=(Np.cell (p:=⟨b,off+m * 3,none⟩) (by show b<_;omega)).trans y0
       have hmI:(m:Int)<(aj.length:Int):=by omega
       have Md:(j:Int)<(ks.length:Int):=by omega
       obtain⟨r0',r1'⟩:=mP hr0;generalize gI ah u (d.its.take j)=acc at hn hrow hst;have HN:=ay hn;have HST:=ay hst;clear hn hst y0 e' hnx XY hX8 lF G0 G1 g0 g1 Y2 dD
       by_cases hpar:∃ t,it=.par t
       ·obtain⟨tS,rfl⟩:=hpar
        have hk4:xn.kind=4:=hkx;rw[hk4] at y0';have HC:=ay (ahr.out tS v hmem m wr.drew hrep (HT.out.below (Np.mono hB).drew) (iY hB Np.size));have hst':gI ah u (d.its.take (j+1))=acc++[tS.xQ ah v]:=HST.out;generalize tS.xQ ah v=f at HC hst';have HS2:=ay hst';obtain⟨Nq,h1,hown,hes⟩:=hrow;rw[<- HN.out] at hown;have afJ:=(bU hXr).1;obtain⟨⟨d0,d1,d2,d3,d4⟩,⟨d5,d6,d7,d8,d9⟩,⟨d10,d11,d12,d13,d14⟩,dz⟩:=gZ hXr
        have hlts:∀ b,some b=(Value.slice ap n cp).ownBlock->wl.heap.size<=b/\b<wr.heap.size:=λb q=>hown.lt b q.symm
        have aci:some X≠(Value.slice ap n cp).ownBlock:=λq=>by have:=(hlts X q).1;omega
        clear hst' HST hk4 hkx hrep hmem d0 d1 d3 d4 d5 d6 d7 d8 d9 d10 d11 d12 d13 d14;have HL:=ay hlts;clear hlts;go_wp2
        go_region_law ((first
         | (refine step_append_lies _ (by rfl) _ _ _ (by rfl) wl.heap.size 68 ip _ 5 64 Tryz.underlying59 aiE aiF aiG aiH rfl (by omega) (.slice ap n cp) n _ (by rfl) ((own_below (uL hown) hb2).alloc _) ⟨W2.heap.size,0,none⟩ 1 1 [.string ⟨f.name.toArray⟩,.int .i64 f.base,.slice ao2 f.aC.length cc2,.int .i64 f.at_,.int .i64 f.bare] (by rfl) (by rfl) (wS (cs:=#[.string ⟨f.name.toArray⟩,.int .i64 f.base,.slice ao2 f.aC.length cc2,.int .i64 f.at_,.int .i64 f.bare]) (t:=68) (fr:=(0,0)) (aZ W2 _)) (by simp[Value.oneCell']) (by omega) (by unfold maxLen;omega) (by omega) (by have:=hb2.size;simp at this |-;omega) (W2.heap.size+1) (by simp) ?_;intro gg oV w5' iW jB CB Sj;have wW:=(jB.block X (by have:=hb2.size;simp at this |-;omega) aci).trans ((iB W2 _ X (by have:=hb2.size;simp at this;omega)).trans Gr);have r65:=(gZ wW).1.2.2.1;have z65:=(gZ wW).2.2.2 2)
         | (refine yL rfl 107 _ _ rfl HC.out (by rfl) (ent _ _) ?_;rintro e W2 ⟨ao2,cc2,rfl,hxe,hb2⟩;refine⟨_,rfl,?_⟩;have Gr:=(hb2.block X afJ).trans hXr;have r62:=(gZ Gr).1.2.2.1;have r63:=λo=>Lib.cell?_alloc_some o r62)))
        all_goals
         obtain⟨q1,q2,q3⟩:=sP.round (K:=FK XA) (Q:=λb=>wl.heap.size<=b) (wr:=wr.drew) (kv:=.slice ap n cp) (YM:=.slice (some ⟨gg,0,none⟩) (n+1) oV) (acc:=acc) (a:=f) (x:=.slice ao2 f.aC.length cc2) (l:=Nq) (show bA _ wl wr.drew from fU) aiM (by omega) h1 (by rw[<- HN.out];exact hown) (λp hp=>(FK XA).frame (hes p hp) (bA.drew _ wr)) ((FK XA).imp (P:=λb=>wr.drew.heap.size<=b) hxe λb hb _=>⟨iY aht hb,λq=>by have:=(HL.out b q).2;have:wr.drew.heap.size=wr.heap.size:=rfl;omega⟩) hb2 (by rw[<- HN.out];exact iW) jB rfl CB 2 (.slice (some ⟨gg,0,none⟩) (n+1) oV);have Gs:(w5'.setCell ⟨X,2,none⟩ (.slice (some ⟨gg,0,none⟩) (n+1) oV)).heap[X]?=some (.cells (I4 pb tt (.slice (some ⟨gg,0,none⟩) (n+1) oV) a.base (.slice ao a.aC.length cc) tp a.bare) 66 (0,0)):=kG w5' X 2 _ _ _ wW;have Gt:=q3 w2.heap.size w2 hXl hbl.drew;clear jB iW CB wW r65 z65 Gr r62 r63 hxe hb2 HC hes hown fU hXr d2 dz hx y0' r0' r1' hr0 Np hbl h1;generalize w5'.setCell _ _=w6' at q1 q2 Gs Gt |-;go_wp2
         go_roundw
         case rel =>
          refine⟨j+1,n+1,some ⟨gg,0,none⟩,oV,by omega,?_⟩;rw[HS2.out];exact⟨by rw[bQ,<- HN.out];rfl,by go_num,q2,Gs,q1,Gt⟩
         case measure=>simp[intOf];omega
       ·have hne:=it.Uj (λt e=>hpar ⟨t,e⟩)
        have HPO:=ay (it.X3 ah v (λt e=>hpar ⟨t,e⟩));rw[<- hkx] at hne;generalize xn.kind=kx at y0' hne
        have t4:(kx == 4)=false:=by rw[<- wT,beq_iff_eq];exact hne
        clear hne hpar hkx hrep hmem;go_wp2
        go_roundw
        case rel =>
         have e1:=HST.out;rw[HPO.out,List.append_nil] at e1;refine⟨j+1,n,ap,cp,by omega,?_⟩;rw[e1];exact⟨HN.out,by go_num,fU,hXr,hrow,hbl⟩
        case measure=>simp[intOf];omega
      ·obtain rfl:j=ks.length:=by omega
       have hti:d.its.take ks.length=d.its:=DL (by have:=HIT.out;omega);rw[hti,<- HPS.out] at hn hrow;have Md:decide ((ks.length:Int)<(ks.length:Int))=false:=fu (by omega);have HN:=ay hn;have afJ:=(bU hXr).1;have G1r:=(fU.2 (w.heap.size+1) ⟨by omega,by omega⟩ (by omega)).trans G1
       have ahu:RowK (EK XA) (λb=>w6.heap.size<=b/\b<wl.heap.size) wr (.slice ao a.aC.length cc) a.aC:=(ach.imp (Q:=λb=>(w6.heap.size<=b/\b<wl.heap.size)/\b<wl.heap.size/\b≠X) λb hb hl=>⟨⟨hb,hl⟩,hl,by omega⟩).frame ⟨fU.1,λb hb hl=>fU.2 b hb.2 hl⟩ |>.imp λb hb _=>hb.1
       have hpr:=hrow.row
       have hz0:wr.cell? ⟨bk,ok+(ks.length - 2),none⟩=some (.int .i64 k2):=(jy hbl Z2)
       have HC:=ay (Vq.out wr.drew (HT.out.below (Np.mono hB).drew) (iY hB Np.size));obtain⟨r0',r1'⟩:=mP hr0;clear hn hti ach hX8 lF hrow fU G0 G1 g0 g1 Y2 Vq ahr HRD HRP YQ Z2
       have ahv:w.heap.size≠X:=by omega
       have aiO:bk≠X:=by omega
       have hwr2:IntKind.i64.wrap ((ks.length:Int) - 2)=(ks.length:Int) - 2:=IntWalk.i64_in _ (by omega)
       have hw0:(0:Int)<=(ks.length:Int) - 2:=by omega
       have hw2:(2:Int)<=(ks.length:Int):=by omega
       have hw3:(ks.length:Int) - 2<(ks.length:Int):=by omega
       have hw4:((ks.length:Int) - 2).toNat=ks.length - 2:=by omega
       go_wp2
       go_region_held3 (λw'=>w'.cell? ⟨w.heap.size,0,none⟩=some (.slice a1 ah.length c1)/\w'.cell? ⟨w.heap.size,1,none⟩=some (.slice (some ⟨b,off,none⟩) aj.length cap)/\w'.cell? ⟨bk,ok+(ks.length - 2),none⟩=some (.int .i64 k2))
        (first|(with_reducible exact p3)|((try dsimp only);with_reducible exact iq ((Al w9 X _ _ _ _ _ _ _ _ ahv).trans p3.1) (iq ((Al w9 X _ _ _ _ _ _ _ _ ahv).trans p3.2.1) ((Al w9 X _ _ _ _ _ _ _ _ aiO).trans p3.2.2)))|(go_keep;done))
        ((go_at_call 108;refine HC.out.mono ?_;rintro e w9 ⟨am,wn,cm,ae,ce,rfl,YR,EO⟩;have YP:Below wr.heap.size wr w9:=(bY wr.heap.size wr).drew.trans EO;have p3:=iq (jy YP r0') (iq (jy YP r1') (jy YP hz0));have hX9:=(YP.block X afJ).trans hXr;obtain⟨⟨d0,d1,d2,d3,d4⟩,⟨d5,d6,d7,d8,d9⟩,⟨d10,d11,d12,d13,d14⟩,dz⟩:=gZ hX9))
       obtain rfl:=HN.out
       have hle:w.heap.size<=X:=by omega
       have hR1:=(bU G1r).1;have ahw:=Ul (show w9.heap[X]?=some (.cells #[.bool pb,.string ⟨tt.toArray⟩,.slice ap mG.length cp,.int .i64 a.base,.slice ao a.aC.length cc,.int .i64 0,.string ⟨#[]⟩,.string ⟨#[]⟩,.bool false,.slice none 0 0,.bool false,.slice none 0 0,.int .i64 0,.int .i64 tp,.int .i64 a.bare] 66 (0,0)) from hX9) (.int .i64 x.op) (.string ⟨x.name.toArray⟩) (.string ⟨x.module.toArray⟩) (.bool (decide (x.num<0))) (.slice am wn cm) (.bool x.yes) (.slice ae x.aA.length ce) (.int .i64 x.at_);have Dj:=QA (Np.trans (YP.mono Np.size)) hle (.int .i64 x.op) (.string ⟨x.name.toArray⟩) (.string ⟨x.module.toArray⟩) (.bool (decide (x.num<0))) (.slice am wn cm) (.bool x.yes) (.slice ae x.aA.length ce) (.int .i64 x.at_)
       have hA:=λP hP=>X4 P w9 X (.int .i64 x.op) (.string ⟨x.name.toArray⟩) (.string ⟨x.module.toArray⟩) (.bool (decide (x.num<0))) (.slice am wn cm) (.bool x.yes) (.slice ae x.aA.length ce) (.int .i64 x.at_) hP
       have G10:=((hA (λk=>k≠X) (λk hk=>hk)).2 (w.heap.size+1) (by omega) (zI hR1 YP.size)).trans ((YP.block _ hR1).trans G1r);have adA:=(hpr.frame (bA.of YP)).frame (hA (λb=>wl.heap.size<=b) λk hk=>by omega);have ahx:=(ahu.frame (bA.of YP)).frame (hA (λb=>w6.heap.size<=b/\b<wl.heap.size) λk hk=>by omega);have Nh:=YR.frame (hA (λb=>wr.drew.heap.size<=b) λk hk=>by have:wr.drew.heap.size=wr.heap.size:=rfl;omega);clear p3 d0 d1 d2 d3 d4 d5 d6 d7 d8 d9 d10 d11 d12 d13 d14 dz hA hX9 YR YP EO hwr2 hw0 hw2 hw3 hw4 r0' r1' hz0 HC hXr hr0 G1r hpr ahu HN;generalize (World.setCell (World.setCell (World.setCell (World.setCell (World.setCell (World.setCell (World.setCell (World.setCell _ _ _) _ _) _ _) _ _) _ _) _ _) _ _) _ _)=nP at ahw Dj G10 adA ahx Nh |-;obtain⟨⟨d0,d1,d2,d3,d4⟩,⟨d5,d6,d7,d8,d9⟩,⟨d10,d11,d12,d13,d14⟩,dz⟩:=gZ ahw;obtain⟨⟨e0,e1,e2,e3,e4⟩,⟨e5,e6,e7,e8,e9⟩,⟨e10,e11,e12,e13,e14⟩,ez⟩:=gZ G10;go_wp2;refine o9 (v:=.agg #[.bool pb,.string ⟨tt.toArray⟩,.slice ap mG.length cp,.int .i64 a.base,.slice ao a.aC.length cc,.int .i64 x.op,.string ⟨x.name.toArray⟩,.string ⟨x.module.toArray⟩,.bool (decide (x.num<0)),.slice am wn cm,.bool x.yes,.slice ae x.aA.length ce,.int .i64 x.at_,.int .i64 tp,.int .i64 a.bare]) (by simp[results,Tryz.results62,go_sem,e0,e1,e2,e3,e4,e5,e6,e7,e8,e9,e10,e11,e12,e13,e14]) rfl ⟨ap,cp,ao,cc,am,wn,cm,ae,ce,rfl,⟨?_,?_,?_⟩,?_⟩
       ·exact(adA.frame (Dp _ _ _ _ _ _ _ _ _ _ _ _ _ _ _ _ _ _ λk hk=>by omega)).imp λb hb _=>by omega
       ·exact(ahx.frame (Dp _ _ _ _ _ _ _ _ _ _ _ _ _ _ _ _ _ _ λk hk=>by omega)).imp λb hb _=>by omega
       ·exact(Nh.frame (Dp _ _ _ _ _ _ _ _ _ _ _ _ _ _ _ _ _ _ λk hk=>by have:wr.drew.heap.size=wr.heap.size:=rfl;omega)).imp λb hb _=>by have:wr.drew.heap.size=wr.heap.size:=rfl;omega
       ·exact yw Dj (by omega) _ _ _ _ _ _ _ _ _ _ _ _ _ _ _
theorem X6 (h:Laid S 0 ah)(v:Nat):bN ah v+(aJ ah v).length<=S.length:=by
 have hs:=h.some
 have hi:min v (ah.length - 1)<ah.length:=by omega
 have hp:=h.place _ hi;have h1:=h.inside (min v (ah.length - 1)+1) (by omega);rw[lH ah _ hi,pG] at h1
 have e:dh ah v=ah[min v (ah.length - 1)]:=by
  rw[dh,Fb,AB hi,Option.getD_some]
 unfold bN aJ;rw[e,hp];omega
theorem afK (F:mM S ah aj p)(B:Nat)(tv nv:Value):RdE B tv nv ah aj:=by
 have hL:=ji F.GL;have hs:=F.small;refine⟨λv=>iY (X6 hL v) (by omega),F.good.aA,λcl e u ho hl k W hr hT hW=>?_⟩;refine eZ ⟨B,tv,nv,ah,aj,cl⟩ ⟨F.good.WY,λu hu hk W=>?_⟩ (SizeOf.sizeOf e+1) e u (by omega) ho hl k W hr ⟨hT,hW⟩;have h:=tO F.GL _ (xO hL.some u) hk;obtain⟨X,hX,eX⟩:=jV (aJ ah u);simp only;rw[eX,<- hX]
 have h':vY X.data.toList:=by rw[hX];exact h
 refine Tv X W ?_ ?_ h'.1 (λq=>by rw[<- aS];exact h'.2.2.2 q)
 ·rw[<- aS];exact List.length_pos_iff.2 h'.2.1
 ·rw[<- aS];exact h'.2.2.1
theorem X7 (F:mM S ah aj p):∃ (r:Nat) (ks:List Int),aj.length=r+1/\aj[r]?=some ⟨(1:Nat),-1,ks⟩/\fT aj ks 0 p.aA:=by
 have hr:=pK.em (pre:=[]) p.pt 0 0 rfl
 have hnd:aj.length=p.pt.nd:=by rw[F.Bu,PT.vO]
 have hp:=p.pt.iI;rw[qW,Nat.zero_add,<- F.Bu,<- hnd] at hr
 obtain⟨r,hr1⟩:∃ r,aj.length=r+1:=⟨aj.length - 1,by omega⟩
 rw[hr1,show (((r+1:Nat):Int) - 1)=(r:Int) by omega,lD.pt] at hr;obtain⟨ks,h1,h2⟩:=fG hr;exact⟨r,ks,hr1,h1,h2⟩
def afL (p:PP)(w:World)(e:Ending)(w':World):Prop :=
 ∃ ai ci ad cd,e=.returned (.tuple #[.agg #[.slice ai p.aG.length ci,.slice ad p.defs.length cd],.int .i64 0])/\(ai=none->ci=0)/\MR (λb=>w.heap.size<=b) w' (.slice ai p.aG.length ci) (.slice ad p.defs.length cd) p/\Below w.heap.size w w'
def acj (p:PP)(w:World)(e:Ending)(w':World):Prop :=
 ∃ ai ci ad cd,e=.returned (.tuple #[.agg #[.slice ai p.aG.length ci,.slice ad p.defs.length cd],.int .i64 0])/\(ai=none->ci=0)/\MR (λb=>w.heap.size<=b) w' (.slice ai p.aG.length ci) (.slice ad p.defs.length cd) p/\Below w.heap.size w w'/\gP DA w.heap.size 66 w' (.slice ad p.defs.length cd) p.defs
theorem acj.post {p:PP}{e:Ending}{w':World}(h:acj p w e w'):afL p w e w':=by
 obtain⟨ai,ci,ad,cd,h1,h2,h3,h4,_⟩:=h;exact⟨ai,ci,ad,cd,h1,h2,h3,h4⟩
theorem gP.base {α β:Type}{K:RK α β}{D:Nat}{zs:List α}(h:gP K C e w v zs)(hD:D<=C):gP K D e w v zs:=by
 obtain⟨l,h1,h2,h3⟩:=h;refine⟨l,h1,⟨h2.1,?_⟩,λp hp=>K.imp (h3 p hp) λb hb _=>⟨by omega,hb.2⟩⟩
 rcases h2.2 with h|⟨g,cap,cur,q1,q2,q3⟩
 ·exact .inl h
 ·exact .inr ⟨g,cap,cur,q1,by omega,q3⟩
def afM (IK:RK (aH × Nat) Unit)(DK:RK DD DV)(p:PP)(wl:World)(pb e1 e2 j:Nat)(W:World)(iv dv:Value):Prop :=
 (j<=p.aG.length/\gP IK wl.heap.size e1 W iv (p.aG.take j)/\dv=.slice none 0 0) \/
 (p.aG.length<=j/\(∀ n c,iv=.slice none n c->c=0)/\∃ w2:World,wl.heap.size<=w2.heap.size/\bA (λb=>b<wl.heap.size/\b≠pb) wl w2/\RowK IK (λb=>wl.heap.size<=b) w2 iv p.aG/\bA (λb=>b<w2.heap.size/\b≠pb) w2 W/\gP DK w2.heap.size e2 W dv (p.defs.take (j - p.aG.length)))
theorem gP.aiP {α β:Type}{K:RK α β}{zs:List α}(h:gP K C e w v zs):∀ n c,v=.slice none n c->c=0:=by
 obtain⟨l,_,h2,_⟩:=h;intro n c hv
 rcases h2.2 with ⟨h3,_⟩|⟨g,cap,cur,h3,_⟩
 ·rw[hv] at h3;injection h3
 ·rw[hv] at h3;injection h3 with h4;cases h4
theorem afM.two {IK:RK (aH × Nat) Unit}{DK:RK DD DV}{p:PP}{wl:World}{pb e1 e2:Nat}{W:World}{iv dv:Value}(h:afM IK DK p wl pb e1 e2 j W iv dv)(hj:p.aG.length<=j)(ha:bA (λb=>b<wl.heap.size/\b≠pb) wl W):(∀ n c,iv=.slice none n c->c=0)/\∃ w2:World,wl.heap.size<=w2.heap.size/\bA (λb=>b<wl.heap.size/\b≠pb) wl w2/\RowK IK (λb=>wl.heap.size<=b) w2 iv p.aG/\bA (λb=>b<w2.heap.size/\b≠pb) w2 W/\gP DK w2.heap.size e2 W dv (p.defs.take (j - p.aG.length)):=by
 rcases h with ⟨h1,h2,rfl⟩|⟨_,h2,h3⟩
 ·obtain rfl:j=p.aG.length:=by omega
  rw[Fe] at h2;refine⟨h2.aiP,W,ha.1,ha,h2.row,bA.refl _ _,?_⟩;rw[Nat.sub_self,List.take_zero];exact gP.nil _ _ _ _
 ·exact⟨h2,h3⟩
def FF.z (f:FF):ZF:=⟨f.name,f.base,f.aC.map PE.z,f.at_,f.bare⟩
def DD.z (d:DD):ZD:=⟨d.pub,d.params.map FF.z,d.res.z,d.body.z⟩
def PP.z (p:PP):ZP:=⟨p.aG.map λm=>(m.1,(m.2:Int)),p.defs.map DD.z⟩
section
variable {α β γ:Type}
theorem I5 {K:RK α β}{L:RK γ β}{g:α->γ}(hc:∀ a b,L.cells (g a) b=K.cells a b):∀ l:List (α × β),L.flat (l.map λp=>(g p.1,p.2))=K.flat l
 | []=>rfl
 | p :: l=>by
  have:=I5 hc l;unfold RK.flat at this |-;rw[mE,List.flatMap_cons,List.flatMap_cons,this,hc]
theorem Nr (g:α->γ):∀ l:List (α × β),(l.map λp=>(g p.1,p.2)).map Prod.fst=(l.map Prod.fst).map g
 | []=>rfl
 | p :: l=>by rw[mE,mE,Nr g l];rfl
theorem RowK.map {K:RK α β}{L:RK γ β}{g:α->γ}{P:Nat->Prop}{w:World}{v:Value}{zs:List α}(hs:L.sz=K.sz)(hc:∀ a b,L.cells (g a) b=K.cells a b)(hi:∀ a b,K.inn P w a b->L.inn P w (g a) b)(h:RowK K P w v zs):RowK L P w v (zs.map g):=by
 obtain⟨l,rfl,h2,h3⟩:=h;refine⟨l.map λp=>(g p.1,p.2),Nr g l,?_,λp hp=>?_⟩
 ·rw[I5 hc,hs,vL];exact h2
 ·obtain⟨q,hq,rfl⟩:=List.mem_map.1 hp
  exact hi _ _ (h3 q hq)
theorem gP.map {K:RK α β}{L:RK γ β}{g:α->γ}{C e:Nat}{w:World}{v:Value}{zs:List α}(hs:L.sz=K.sz)(hc:∀ a b,L.cells (g a) b=K.cells a b)(hi:∀ P a b,K.inn P w a b->L.inn P w (g a) b)(h:gP K C e w v zs):gP L C e w v (zs.map g):=by
 obtain⟨l,rfl,h2,h3⟩:=h;refine⟨l.map λp=>(g p.1,p.2),Nr g l,?_,λp hp=>?_⟩
 ·rw[I5 hc,hs,vL];exact h2
 ·obtain⟨q,hq,rfl⟩:=List.mem_map.1 hp
  exact hi _ _ _ (h3 q hq)
end
theorem VB {es:List PE}(h:RowK (EK XA) P w v es):RowK (ZK YA) P w v (es.map PE.z) :=
 RowK.map (K:=EK XA) (L:=ZK YA) (g:=PE.z) rfl (λa b=>PX a b.1 b.2) (λ_ _ h=>nD.ofE h) h
theorem ad6 {es:List FF}(h:RowK (FK XA) P w v es):RowK ZFK P w v (es.map FF.z) :=
 RowK.map (K:=FK XA) (L:=ZFK) (g:=FF.z) rfl (λ_ _=>rfl) (λ_ _ h=>VB h) h
theorem ad7 {d:DD}{x:DV}(h:DA.inn P w d x):Vu.inn P w d.z x:=⟨ad6 h.1,VB h.2.1,nD.ofE h.2.2⟩
theorem X8 (d:DD)(x:DV):Vu.cells d.z x=DA.cells d x:=by
 obtain⟨pub,ps,res,body⟩:=d;cases body
 rfl
theorem ad8 {es:List DD}(h:gP DA C e w v es):gP Vu C e w v (es.map DD.z):=gP.map (K:=DA) (L:=Vu) (g:=DD.z) rfl X8 (λ_ _ _ h=>ad7 h) h
mutual
theorem PE.acn:∀ e:PE,e.z.size=e.kX
 | .mk _ _ _ _ _ _ aA _=>by rw[PE.z,PZ.size,PE.kX,QC aA];omega
theorem QC:∀ l:List PE,qI (Ht l)=iy l
 | []=>rfl
 | e :: l=>by rw[Ht,qI,iy,PE.acn e,QC l]
end
theorem I6:∀ l:List PE,l.length<=iy l
 | []=>bI _
 | e :: l=>by
  have:=I6 l
  have:1<=e.kX:=by cases e;rw[PE.kX];omega
  rw[iy,dN];omega
mutual
theorem PE.aeK {M:Nat}(hM:M<=65536):∀ e:PE,e.fits M->e.kX<=65536->e.z.fit
 | .mk op nm md num txt yes aA a,h,hs=>by
  rw[PE.fits] at h;rw[PE.kX] at hs;have hl:=I6 aA;rw[PE.z,PZ.fit];exact⟨by omega,by omega,h.2.2.2.2.2.1,by rw[MO,vL];omega,VD hM aA h.2.2.2.2.2.2 (by omega)⟩
theorem VD {M:Nat}(hM:M<=65536):∀ l:List PE,jI M l->iy l<=65536->MX (Ht l)
 | [],_,_=>by rw[Ht,MX];trivial
 | e :: l,h,hs=>by
  rw[jI] at h;rw[iy] at hs;rw[Ht,MX];exact⟨PE.aeK hM e h.1 (by omega),VD hM l h.2 (by omega)⟩
end
theorem gP.setHead {α β:Type}{K:RK α β}{zs:List α}{a a':α}{u:Value}(h:gP K C e w (.slice (some ⟨g,0,none⟩) n cap) (a :: zs))(hj:j<K.sz)(hc:∀ x,K.cells a' x=(K.cells a x).set j u)(hi:∀ P W x,K.inn P W a x->K.inn P W a' x) :
  gP K C e (w.setCell ⟨g,j,none⟩ u) (.slice (some ⟨g,0,none⟩) n cap) (a' :: zs):=by
 obtain⟨l,h1,h2,h3⟩:=h
 cases l with
 | nil=>cases h1
 | cons p l =>
  obtain⟨a0,x⟩:=p;rw[mE,List.cons.injEq] at h1;obtain⟨h1a,h1b⟩:=h1;simp only at h1a;subst h1a
  have hA:bA (λb=>C<=b/\some b≠(Value.slice (some ⟨g,0,none⟩) n cap).ownBlock) w (w.setCell ⟨g,j,none⟩ u):=bA.set u λb hb q=>hb.2 (by rw[q];rfl)
  refine⟨(a',x) :: l,by rw[mE,h1b],?_,λp hp=>?_⟩
  ·obtain⟨hlen,hr⟩:=h2
   have hf:K.flat ((a',x) :: l)=(K.flat ((a0,x) :: l)).set j u:=by
    show K.cells a' x++K.flat l=(K.cells a0 x++K.flat l).set j u;rw[hc,List.set_append_left _ _ (by rw[K.len];exact hj)]
   refine⟨by rw[hf,List.length_set,hlen];rfl,?_⟩
   rcases hr with ⟨hv,_⟩|⟨g',jc,cur,hv,hg,hh,hn,hm,hs,ht⟩
   ·cases hv
   ·simp only[Value.slice.injEq,Option.some.injEq,Addr.mk.injEq,and_true] at hv
    obtain⟨rfl,rfl,rfl⟩:=hv;refine .inr ⟨g,cap,cur.setIfInBounds j u,rfl,hg,kG w g j _ _ u hh,hn,hm,by rw[Array.size_setIfInBounds];exact hs,?_⟩;rw[Array.toList_setIfInBounds,hf,<- ht,List.take_set]
    rfl
  ·rcases oo.1 hp with rfl|hp
   ·exact hi _ _ _ (K.frame (h3 _ xq) hA)
   ·exact K.frame (h3 p (xu _ hp)) hA
theorem gP.free {α β:Type}{K:RK α β}{zs:List α}(h:gP K C e w (.slice (some ⟨g,0,none⟩) n cap) zs)(j:Nat):w.frozen? ⟨g,j,none⟩=false:=by
 obtain⟨l,h1,h2,h3⟩:=h
 rcases h2.2 with ⟨hv,_⟩|⟨g',jc,cur,hv,hg,hh,_⟩
 ·cases hv
 ·simp only[Value.slice.injEq,Option.some.injEq,Addr.mk.injEq,and_true] at hv
  obtain⟨rfl,-⟩:=hv;simp[World.frozen?,hh]
theorem gP.head {α β:Type}{K:RK α β}{zs:List α}(h:gP K C e w v zs)(h0:0<zs.length):∃ g cap,v=.slice (some ⟨g,0,none⟩) zs.length cap/\C<=g/\g<w.heap.size:=by
 obtain⟨l,h1,h2,h3⟩:=h
 rcases h2.2 with ⟨_,hv⟩|⟨g',jc,cur,hv,hg,hh,_⟩
 ·omega
 ·exact⟨g',jc,hv,hg,(bU hh).1⟩
def ZD.VE (d:ZD)(b:Int):ZD:={ d with res:={ d.res with base:=b } }
theorem gP.VE {C e g n cap:Nat}{w:World}{d:ZD}{zs:List ZD}(h:gP Vu C e w (.slice (some ⟨g,0,none⟩) n cap) (d :: zs))(b:Int):gP Vu C e (w.setCell ⟨g,3,none⟩ (.int .i64 b)) (.slice (some ⟨g,0,none⟩) n cap) (d.VE b :: zs) :=
 h.setHead (by decide) (λ_=>rfl) λ_ _ _ h=>h
variable{u:Nat}{a b:List Tok}{w R:aH}
def Ns (t:Tok):Nat × aH:=(t.kind,t.text)
theorem Lx:∀ (n m:Nat) (T:aH) (p q:Nat) (L K:List Tok),kZ n T p=.ok L->kZ m T q=.ok K->K.map Ns=L.map Ns
 | 0,_,_,_,_,_,_,h,_=>by rw[kZ] at h;cases h
 | _+1,0,_,_,_,_,_,_,h=>by rw[kZ] at h;cases h
 | n+1,m+1,T,p,q,L,K,h,k=>by
  simp only[kZ] at h k
  split at h
  ·cases h
  ·rename_i h1
   rw[aP h1] at k
   split at h
   ·rename_i h2
    rw[bq h2] at k
    injection h with h
    injection k with k
    subst h k
    rfl
   ·rename_i h2
    rw[aP h2] at k
    split at h
    ·cases h
    ·rename_i l hl
     split at k
     ·cases k
     ·rename_i l' hl'
      injection h with h
      injection k with k
      subst h k;rw[mE,mE,Lx n m _ _ _ _ _ hl hl']
      rfl
theorem LA:∀ {a b:List Tok},b.map Ns=a.map Ns->cZ a b
 | [],[],_=>trivial
 | s :: a,t :: b,h=>by
  rw[mE,mE,List.cons.injEq] at h;have h1:=h.1;unfold Ns at h1;rw[Prod.mk.injEq] at h1;exact⟨⟨h1.1,.inl h1.2⟩,LA h.2⟩
 | [],_ :: _,h=>by cases h
 | _ :: _,[],h=>by cases h
theorem aco {A B:List Tok}(hl:B.length=A.length)(h:b.map Ns=a.map Ns)(h0:a≠[])(hu:A.length<=u):aJ (B++b) u=aJ (A++a) u:=by
 have hn:b.length=a.length:=by have:=congrArg List.length h;rwa [vL,vL] at this
 have hp:0<a.length:=List.length_pos_iff.2 h0
 have hg:∀ {X x:List Tok} (i:Nat),X.length<=i->(X++x).getD i FI=x.getD (i - X.length) FI:=λi hi=>by
  rw[Fb,Fb,abj hi]
 unfold aJ dh;rw[bQ,bQ,hl,hn,hg _ (by omega),hg _ (by omega),hl];generalize min u (A.length+a.length - 1) - A.length=i
 have h1:∀ x:List Tok,(x.getD i FI).text=((x.map Ns).getD i (Ns FI)).2:=λx=>by
  rw[Fb,Fb,abl]
  cases x[i]?<;>rfl
 rw[h1,h1,h]
theorem j4 {ah:List Tok}{u:Nat}{t:Tok}(h:ah[u]?=some t):aJ ah u=t.text:=by
 obtain⟨h1,h2⟩:=qm h;unfold aJ dh;rw[Nat.min_eq_left (by omega),Fb,h]
 rfl
theorem QD {n p:Nat}{c:UInt8}{r:aH}{L:List Tok}(h0:cK false (c :: r)=0)(h:kZ n (c :: r) p=.ok L):∃ t l,L=t :: l/\(t.text=[]\/t.text.head?=some c):=by
 cases n with
 | zero=>rw[kZ] at h;cases h
 | succ n =>
  rw[kZ,h0,List.drop_zero] at h
  split at h
  ·cases h
  ·split at h
   ·injection h with h
    exact⟨_,_,h.symm,.inl rfl⟩
   ·split at h
    ·cases h
    ·injection h with h
     refine⟨_,_,h.symm,?_⟩;simp only;generalize (fP (c :: r)).2.1=k
     cases k with
     | zero=>left;rfl
     | succ k=>right;rfl
def j5 (w:aH):List Pc:=[⟨[],2,[102,117,110]⟩,⟨[32],1,[103]⟩,⟨[],4,[40]⟩,⟨[],1,[120]⟩,⟨[],4,[58]⟩,⟨[],2,[105,110,116]⟩,⟨[],4,[44]⟩,⟨[],1,[121]⟩,⟨[],4,[58]⟩,⟨[],2,[98,111,111,108]⟩,⟨[],4,[41]⟩,⟨[],4,[58]⟩,⟨[],2,w⟩]
theorem acp (R:aH)(hw:w=oh\/w=jJ):NY (j5 w) (61 :: R):=by
 have h1:ny ⟨[],2,w⟩=true:=by rcases hw with rfl|rfl<;>decide
 have h2:qG 2 w (some 61)=true:=by rcases hw with rfl|rfl<;>decide
 have h3:∃ c t,w=c :: t/\qG 4 [58] (some c)=true:=by rcases hw with rfl|rfl<;>exact⟨_,_,rfl,by decide⟩
 obtain⟨c,t,rfl,h3⟩:=h3;exact⟨by decide,by show qG 2 [102,117,110] (some 32)=true;decide,by decide,by show qG 1 [103] (some 40)=true;decide,by decide,by show qG 4 [40] (some 120)=true;decide,by decide,by show qG 1 [120] (some 58)=true;decide,by decide,by show qG 4 [58] (some 105)=true;decide,by decide,by show qG 2 [105,110,116] (some 44)=true;decide,by decide,by show qG 4 [44] (some 121)=true;decide,by decide,by show qG 1 [121] (some 58)=true;decide,by decide,by show qG 4 [58] (some 98)=true;decide,by decide,by show qG 2 [98,111,111,108] (some 41)=true;decide,by decide,by show qG 4 [41] (some 58)=true;decide,by decide,h3,h1,h2,trivial⟩
theorem wC (hw:w=oh\/w=jJ)(h:bV (aX (j5 w)++61 :: R)=.ok ah):∃ n p t l,ah=oI 0 (j5 w)++t :: l/\t.text≠[123]/\kZ n (61 :: R) p=.ok (t :: l):=by
 unfold bV at h
 split at h
 ·cases h
 ·obtain⟨L',h1,h2⟩:=Hr (j5 w) _ _ _ _ (acp R hw) h
  obtain⟨t,l,rfl,h3⟩:=QD (by rw[cK,aP (by decide),aP (by rintro⟨q,_⟩;cases q)]) h2;refine⟨_,_,t,l,h1,λq=>?_,h2⟩
  rcases h3 with h3|h3
  ·rw[q] at h3;cases h3
  ·rw[q] at h3;cases h3
theorem QE (ha:bV (aX (j5 oh)++61 :: R)=.ok a)(hb:bV (aX (j5 jJ)++61 :: R)=.ok b):cZ a b/\∀ u,13<=u->aJ b u=aJ a u:=by
 obtain⟨n,p,t,l,rfl,-,h1⟩:=wC (.inl rfl) ha;obtain⟨m,q,s,k,rfl,-,h2⟩:=wC (.inr rfl) hb;have h3:=Lx _ _ _ _ _ _ _ h1 h2;refine⟨cZ.append ?_ (LA h3),λu hu=>aco (A:=oI 0 (j5 oh)) (B:=oI 0 (j5 jJ)) rfl h3 (by simp) hu⟩;exact⟨⟨rfl,.inl rfl⟩,⟨rfl,.inl rfl⟩,⟨rfl,.inl rfl⟩,⟨rfl,.inl rfl⟩,⟨rfl,.inl rfl⟩,⟨rfl,.inl rfl⟩,⟨rfl,.inl rfl⟩,⟨rfl,.inl rfl⟩,⟨rfl,.inl rfl⟩,⟨rfl,.inl rfl⟩,⟨rfl,.inl rfl⟩,⟨rfl,.inl rfl⟩,⟨rfl,.inr ⟨rfl,rfl⟩⟩,trivial⟩
theorem jG (A:cZ a b){x:aH}(h:aJ a u=x)(hx:x≠oh):aJ b u=x:=by
 rcases(A.peek u).2 with q|q
 ·rw[aJ,q];exact h
 ·exact absurd (h.symm.trans q.1) hx
theorem kg (A:cZ a b)(u:Nat):gq b u=gq a u:=Ad A u
mutual
theorem CE.j6 {a b:List Tok}(A:cZ a b){cl:Bool}:∀ (e:CE) (u:Nat),e.ok a cl u->e.ok b cl u
 | .num,u,h=>by rw[CE.ok] at h |-;rw[kg A];exact h
 | .truth,u,h=>by rw[CE.ok] at h |-;exact h.imp (λq=>jG A q (by decide)) (λq=>jG A q (by decide))
 | .res,u,h=>by rw[CE.ok] at h |-;exact⟨h.1,jG A h.2 (by decide)⟩
 | .Cr,u,h=>by rw[CE.ok] at h |-;rw[kg A];exact h
 | .group e,u,h=>by rw[CE.ok] at h |-;exact⟨jG A h.1 (by decide),CE.j6 A e _ h.2⟩
 | .un e,u,h=>by rw[CE.ok] at h |-;exact⟨h.1.imp (λq=>jG A q (by decide)) (λq=>jG A q (by decide)),CE.j6 A e _ h.2⟩
 | .bin x y,u,h=>by
  rw[CE.ok] at h |-;refine⟨?_,CE.j6 A x _ h.2.1,CE.j6 A y _ h.2.2⟩;have h1:=h.1;rw[jG A rfl (λq=>by rw[q] at h1;revert h1;decide)];exact h1
 | .iff x y z,u,h=>by rw[CE.ok] at h |-;exact⟨h.1,CE.j6 A x _ h.2.1,CE.j6 A y _ h.2.2.1,CE.j6 A z _ h.2.2.2⟩
 | .sZ x y,u,h=>by rw[CE.ok] at h |-;exact⟨h.1,by rw[kg A];exact h.2.1,CE.j6 A x _ h.2.2.1,CE.j6 A y _ h.2.2.2⟩
 | .tq x y,u,h=>by rw[CE.ok] at h |-;exact⟨h.1,CE.j6 A x _ h.2.1,CE.j6 A y _ h.2.2⟩
 | .call q l,u,h=>by
  rw[CE.ok] at h |-;refine⟨h.1,by rw[kg A];exact h.2.1,h.2.2.1,?_⟩;have h4:=h.2.2.2
  cases q with
  | true =>
   rw[bq rfl] at h4 |-;exact⟨jG A h4.1 (by decide),by rw[kg A];exact h4.2.1,Am A l _ h4.2.2⟩
  | false =>
   rw[aP (by simp)] at h4 |-;exact⟨jG A h4.1 (by decide),Am A l _ h4.2⟩
theorem Am {a b:List Tok}(A:cZ a b){cl:Bool}:∀ (l:List CE) (u:Nat),mF a cl u l->mF b cl u l
 | [],u,h=>by rw[mF];trivial
 | e :: l,u,h=>by rw[mF] at h |-;exact⟨CE.j6 A e _ h.1,Am A l _ h.2⟩
end
mutual
theorem CE.vG {a b:List Tok}{U:Nat}(h:∀ v,U<=v->aJ b v=aJ a v):∀ (e:CE) (u:Nat),U<=u->(e.pe b u).z.na=(e.pe a u).z.na
 | .num,u,hu=>by simp only[CE.pe,PE.z,PZ.na,h u hu]
 | .truth,u,hu=>by simp only[CE.pe,PE.z,PZ.na,h u hu]
 | .res,u,hu=>by simp only[CE.pe,PE.z,PZ.na]
 | .Cr,u,hu=>by simp only[CE.pe,PE.z,PZ.na,h u hu]
 | .group e,u,hu=>by rw[CE.pe,CE.pe];exact CE.vG h e _ (by omega)
 | .un e,u,hu=>by simp only[CE.pe,PE.z,PZ.na,Ht,vC,h u hu,CE.vG h e (u+1) (by omega)]
 | .bin x y,u,hu=>by simp only[CE.pe,PE.z,PZ.na,Ht,vC,h (u+x.pt.lv) (by omega),CE.vG h x u hu,CE.vG h y (u+x.pt.lv+1) (by omega)]
 | .iff x y z,u,hu=>by simp only[CE.pe,PE.z,PZ.na,Ht,vC,CE.vG h x (u+1) (by omega),CE.vG h y (u+1+x.pt.lv+1) (by omega),CE.vG h z (u+1+x.pt.lv+1+y.pt.lv+1) (by omega)]
 | .sZ x y,u,hu=>by simp only[CE.pe,PE.z,PZ.na,Ht,vC,h (u+1) (by omega),CE.vG h x (u+3) (by omega),CE.vG h y (u+3+x.pt.lv+1) (by omega)]
 | .tq x y,u,hu=>by simp only[CE.pe,PE.z,PZ.na,Ht,vC,CE.vG h x (u+1) (by omega),CE.vG h y (u+1+x.pt.lv+1) (by omega)]
 | .call q l,u,hu=>by
  cases q with
  | true=>rw[CE.pe,CE.pe,bq rfl,bq rfl,PE.z,PE.z,PZ.na,PZ.na,h u hu,h (u+2) (by omega),Nt h l (u+4) (by omega)]
  | false=>rw[CE.pe,CE.pe,aP (by simp),aP (by simp),PE.z,PE.z,PZ.na,PZ.na,h u hu,Nt h l (u+2) (by omega)]
theorem Nt {a b:List Tok}{U:Nat}(h:∀ v,U<=v->aJ b v=aJ a v):∀ (l:List CE) (u:Nat),U<=u->vC (Ht (iZ b u l))=vC (Ht (iZ a u l))
 | [],u,_=>rfl
 | e :: l,u,hu=>by rw[iZ,iZ,Ht,Ht,vC,vC,CE.vG h e u hu,Nt h l (u+e.pt.lv+1) (by omega)]
end
def kC (b:Int)(a1 b1 a2 b2 a3 b3:Int)(e:PZ):ZD:=⟨false,[⟨[120],1,[],a1,b1⟩,⟨[121],2,[],a2,b2⟩],⟨[103],b,[],a3,b3⟩,e⟩
theorem X9 {aj:List Nd}{p:lD}(F:mM (aX (j5 oh)++61 :: R) ah aj p)(hm:p.marks ah)(h1:(p.pp ah).defs.length=1) :
  ∃ c:CE,p=⟨0,[⟨false,[⟨none⟩,⟨none⟩],⟨none⟩,c⟩]⟩:=by
 obtain⟨_,_,t9,l,rfl,h9,-⟩:=wC (.inl rfl) F.GL;have hok:=F.okk;generalize hT:oI 0 (j5 oh)++t9 :: l=ah at *
 have x0:aJ ah 0=[102,117,110]:=by rw[<- hT];exact @j4 (oI 0 (j5 oh)++t9 :: l) 0 _ rfl
 have x3:aJ ah 3=[120]:=by rw[<- hT];exact @j4 (oI 0 (j5 oh)++t9 :: l) 3 _ rfl
 have x6:aJ ah 6=[44]:=by rw[<- hT];exact @j4 (oI 0 (j5 oh)++t9 :: l) 6 _ rfl
 have x10:aJ ah 10=[41]:=by rw[<- hT];exact @j4 (oI 0 (j5 oh)++t9 :: l) 10 _ rfl
 have YU:aJ ah 13=t9.text:=by rw[<- hT];exact @j4 (oI 0 (j5 oh)++t9 :: l) 13 _ rfl
 clear hT F;obtain⟨imps,defs⟩:=p
 have hi:imps=0:=by
  cases imps with
  | zero=>rfl
  | succ n =>
   have h3:=hok.2.2.1.1;rw[x0] at h3;cases h3
 subst hi
 match defs,h1,hok,hm with
 | [],h1,_,_=>cases h1
 | d :: e :: ds,h1,_,_=>simp[lD.pp,mZ] at h1
 | [d],_,hok,hm =>
  have hd:d.ok ah 0:=hok.2.2.2.1;have hk:d.marks ah 0:=hm.1;obtain⟨pub,mG,ty,body⟩:=d
  have afI:pub=false:=by
   cases pub with
   | false=>rfl
   | true =>
    have h3:=hd.1 rfl;rw[x0] at h3;cases h3
  subst afI;obtain⟨k1,k2,k3⟩:=hk
  match mG,k1,k2,k3 with
  | [],_,k2,_ =>
   have:aJ ah 3=[41]:=k2;rw[x3] at this;cases this
  | ⟨some e⟩ :: ts,k1,_,_ =>
   have:aJ ah 6=[123]:=k1.1 (by simp);rw[x6] at this;cases this
  | [⟨none⟩],_,k2,_ =>
   have:aJ ah 6=[41]:=k2;rw[x6] at this;cases this
  | ⟨none⟩ :: ⟨some e⟩ :: ts,k1,_,_ =>
   have:aJ ah 10=[123]:=k1.2.2.1 (by simp);rw[x10] at this;cases this
  | ⟨none⟩ :: ⟨none⟩ :: t3 :: ts,k1,_,_ =>
   have:aJ ah 10=[44]:=k1.2.2.2.1 (by simp);rw[x10] at this;cases this
  | [⟨none⟩,⟨none⟩],_,_,k3 =>
   obtain⟨cl⟩:=ty
   cases cl with
   | none=>exact⟨body,rfl⟩
   | some e =>
    have:aJ ah 13=[123]:=k3 (by simp);rw[YU] at this;exact absurd this h9
theorem VF (hw:w=oh\/w=jJ)(h:bV (aX (j5 w)++61 :: R)=.ok ah)(c:CE) :
  ∃ a1 b1 a2 b2 a3 b3,((lD.mk 0 [⟨false,[⟨none⟩,⟨none⟩],⟨none⟩,c⟩]).pp ah).z=⟨[],[kC (if w=jJ then 2 else 1) a1 b1 a2 b2 a3 b3 (c.pe ah 14).z]⟩:=by
 obtain⟨_,_,t9,l,rfl,-,-⟩:=wC hw h;generalize hT:oI 0 (j5 w)++t9 :: l=ah at *
 have x1:aJ ah 1=[103]:=by rw[<- hT];exact @j4 (oI 0 (j5 w)++t9 :: l) 1 _ rfl
 have x3:aJ ah 3=[120]:=by rw[<- hT];exact @j4 (oI 0 (j5 w)++t9 :: l) 3 _ rfl
 have x5:aJ ah 5=oh:=by rw[<- hT];exact @j4 (oI 0 (j5 w)++t9 :: l) 5 _ rfl
 have x7:aJ ah 7=[121]:=by rw[<- hT];exact @j4 (oI 0 (j5 w)++t9 :: l) 7 _ rfl
 have x9:aJ ah 9=jJ:=by rw[<- hT];exact @j4 (oI 0 (j5 w)++t9 :: l) 9 _ rfl
 have VA:aJ ah 12=w:=by rw[<- hT];exact @j4 (oI 0 (j5 w)++t9 :: l) 12 _ rfl
 clear hT h;refine⟨((bN ah 3:Nat):Int),((bN ah 5+(aJ ah 5).length:Nat):Int),((bN ah 7:Nat):Int),((bN ah 9+(aJ ah 9).length:Nat):Int),((bN ah 1:Nat):Int),((bN ah 12+(aJ ah 12).length:Nat):Int),?_⟩;have key:((lD.mk 0 [⟨false,[⟨none⟩,⟨none⟩],⟨none⟩,c⟩]).pp ah).z=ZP.mk [] [⟨false,[⟨aJ ah 3,((if aJ ah 5=jJ then 2 else 1:Nat):Int),[],((bN ah 3:Nat):Int),((bN ah 5+(aJ ah 5).length:Nat):Int)⟩,⟨aJ ah 7,((if aJ ah 9=jJ then 2 else 1:Nat):Int),[],((bN ah 7:Nat):Int),((bN ah 9+(aJ ah 9).length:Nat):Int)⟩],⟨aJ ah 1,((if aJ ah 12=jJ then 2 else 1:Nat):Int),[],((bN ah 1:Nat):Int),((bN ah 12+(aJ ah 12).length:Nat):Int)⟩,(c.pe ah 14).z⟩]:=rfl;rw[key,x1,x3,x5,x7,x9,VA];unfold kC
 rcases hw with rfl|rfl<;>rfl
variable{i k:Nat}{x:aH}{v:List Value}
abbrev ML:=List (aH × List Value)
def bB (p:aH × List Value):List Value:=.string ⟨p.1.toArray⟩ :: p.2
def eF (l:ML):List Value:=l.flatMap bB
structure yV (k:Nat) (l:ML):Prop where
 sorted:(l.map Prod.fst).Pairwise (· < ·)
 wid:∀ p∈l,p.2.length=k
 one:∀ p∈l,∀ u∈p.2,u.oneCell'=true
theorem yV.nil (k:Nat):yV k []:=⟨List.Pairwise.nil,(by intro p h;cases h),(by intro p h;cases h)⟩
def aU (l:ML)(x:aH):Nat:=(l.takeWhile λp=>decide (p.1<x)).length
def l8 (l:ML)(x:aH):Bool:=decide (x∈l.map Prod.fst)
def oW (l:ML)(x:aH):Option (List Value):=(l.find? λp=>decide (p.1=x)).map Prod.snd
def qh (l:ML)(x:aH)(v:List Value):ML:=l.take (aU l x)++(x,v) :: l.drop (aU l x)
def Ca (l:ML)(x:aH)(v:List Value):ML:=l.map λp=>if p.1=x then (x,v) else p
def Cb (l:ML)(x:aH)(v:List Value):ML:=if l8 l x=true then Ca l x v else qh l x v
theorem mh (l:ML)(x:aH):aU l x<=l.length:=(List.takeWhile_prefix (l:=l) _).length_le
theorem Dq {x:aH}:∀ {l:ML} {t:Nat} (h:t<l.length),t<aU l x->l[t].1<x
 | [],_,h,_=>absurd h (by simp)
 | p :: l,t,h,ht=>by
  unfold aU at ht;rw[List.takeWhile_cons] at ht
  split at ht
  ·rename_i hp
   cases t with
   | zero=>exact V7 hp
   | succ t =>
    rw[dN] at ht h;exact Dq (Nat.lt_of_succ_lt_succ h) (show t<aU l x from Nat.lt_of_succ_lt_succ ht)
  ·simp at ht
theorem uh {x:aH}:∀ {l:ML} (h:aU l x<l.length),¬ l[aU l x].1<x
 | [],h=>absurd h (by simp)
 | p :: l,h=>by
  by_cases hp:p.1<x
  ·have e:aU (p :: l) x=aU l x+1:=by unfold aU;rw[List.takeWhile_cons,bq (kS hp)];rfl
   simp only[e,JG];exact uh (by rw[e] at h;simpa using h)
  ·have e:aU (p :: l) x=0:=by unfold aU;rw[List.takeWhile_cons,aP (by simpa using hp)];rfl
   simp only[e,List.getElem_cons_zero];exact hp
theorem yV.mono {l:ML}(h:yV k l){j:Nat}(hij:i<j)(hj:j<l.length):l[i].1<l[j].1:=by
 have:=List.pairwise_iff_getElem.1 h.sorted i j (by simpa using Nat.lt_trans hij hj) (by simpa using hj) hij
 simpa using this
theorem wD {l:ML}(h:yV k l){t:Nat}(ht:t<l.length):l[t].1<x↔t<aU l x:=by
 constructor
 ·intro hlt
  apply LY
  intro q
  by_cases e:aU l x=t
  ·subst e;exact uh ht hlt
  ·have h1:aU l x<l.length:=by omega
   exact uh h1 (List.lt_trans (h.mono (by omega) ht) hlt)
 ·exact Dq ht
theorem sQ {l:ML}(h:yV k l)(x:aH):l8 l x=decide (∃ hi:aU l x<l.length,l[aU l x].1=x):=by
 unfold l8
 congr 1
 apply propext
 constructor
 ·intro hm
  obtain⟨j,hj,e⟩:=List.getElem_of_mem hm;rw[vL] at hj;rw[List.getElem_map] at e
  have h1:¬ l[j].1<x:=by rw[e];exact List.lt_irrefl _
  rw[wD h hj] at h1
  have h2:aU l x<l.length:=by omega
  refine⟨h2,?_⟩
  by_cases q:aU l x=j
  ·simp only[q];exact e
  ·have h3:=h.mono (show aU l x<j by omega) hj
   rw[e] at h3;exact absurd h3 (uh h2)
 ·rintro⟨hi,e⟩
  rw[<- e];exact List.mem_map_of_mem (oQ hi)
theorem yx (l:ML)(x:aH):(oW l x).isSome=l8 l x:=by
 unfold oW l8;rw[Option.isSome_map]
 induction l with
 | nil=>rfl
 | cons p l ih =>
  rw[List.find?_cons,mE]
  by_cases e:p.1=x
  ·rw[kS e,kS (by rw[e];exact xq)];rfl
  ·rw[fu e]
   simp only[ih]
   apply decide_eq_decide.2
   constructor
   ·exact xu _
   ·intro q
    rcases oo.1 q with q|q
    ·exact absurd q.symm e
    ·exact q
theorem Ya {l:ML}(h:l8 l x=false):oW l x=none:=by
 have:=yx l x;rw[h] at this
 simpa using this
theorem VG {l:ML}(h:yV k l)(hi:i<l.length)(e:l[i].1=x):oW l x=some l[i].2:=by
 unfold oW
 have:l.find? (λp=>decide (p.1=x))=some l[i]:=by
  rw[List.find?_eq_some_iff_getElem];refine⟨kS e,i,hi,rfl,λj hj=>?_⟩;have:=h.mono hj hi;rw[e] at this;simp only[Bool.not_eq_true',decide_eq_false_iff_not];intro q;rw[q] at this;exact List.lt_irrefl _ this
 rw[this];rfl
theorem Yb (l:ML)(x:aH)(v:List Value):(qh l x v).map Prod.fst=(l.map Prod.fst).take (aU l x)++x :: (l.map Prod.fst).drop (aU l x):=by
 unfold qh;rw[zJ,mE,List.map_take,List.map_drop]
theorem yV.ins {l:ML}(h:yV k l)(hx:l8 l x=false)(hv:v.length=k)(h1:∀ u∈v,u.oneCell'=true):yV k (qh l x v):=by
 have hmem:∀ p∈qh l x v,p∈l\/p=(x,v):=λp hp=>by
  unfold qh at hp
  rcases List.mem_append.1 hp with q|q
  ·exact .inl (List.mem_of_mem_take q)
  ·rcases oo.1 q with q|q
   ·exact .inr q
   ·exact .inl (List.mem_of_mem_drop q)
 refine⟨?_,λp hp=>?_,λp hp=>?_⟩
 ·have hg:∀ j,(hj:j<l.length)->aU l x<=j->x<l[j].1:=λj hj hij=>by
   have h1:¬ l[j].1<x:=by rw[wD h hj];omega
   rw[MK];refine⟨List.not_lt.1 h1,λq=>?_⟩
   have:x∈l.map Prod.fst:=by rw[q];exact List.mem_map_of_mem (oQ hj)
   unfold l8 at hx;exact of_decide_eq_false hx this
  rw[Yb,List.pairwise_append];refine⟨h.sorted.sublist (List.take_sublist _ _),List.pairwise_cons.2 ⟨λy hy=>?_,h.sorted.sublist (List.drop_sublist _ _)⟩,λy hy z hz=>?_⟩
  ·obtain⟨j,hj,rfl⟩:=List.getElem_of_mem hy
   rw[zh,vL] at hj;rw[List.getElem_drop,List.getElem_map];exact hg _ (by omega) (by omega)
  ·obtain⟨j,hj,rfl⟩:=List.getElem_of_mem hy
   rw[qX,vL] at hj;rw[List.getElem_take,List.getElem_map];have hlt:l[j].1<x:=Dq (by omega) (by omega)
   rcases oo.1 hz with q|q
   ·rw[q];exact hlt
   ·obtain⟨m,hm,rfl⟩:=List.getElem_of_mem q
    rw[zh,vL] at hm;rw[List.getElem_drop,List.getElem_map];exact List.lt_trans hlt (hg _ (by omega) (by omega))
 ·rcases hmem p hp with q|q
  ·exact h.wid p q
  ·rw[q];exact hv
 ·rcases hmem p hp with q|q
  ·exact h.one p q
  ·rw[q];exact h1
theorem Cc (l:ML)(x:aH)(v:List Value):(qh l x v).length=l.length+1:=by
 have:=mh l x;unfold qh;rw[bQ,qX,dN,zh];omega
theorem QF {l:ML}(v:List Value)(hx:l8 l x=false)(y:aH):oW (qh l x v) y=if y=x then some v else oW l y:=by
 have hn:∀ p∈l,p.1≠x:=λp hp q=>by
  unfold l8 at hx;exact of_decide_eq_false hx (by rw[<- q];exact List.mem_map_of_mem hp)
 have hl:l.find? (λp=>decide (p.1=y))=((l.take (aU l x)).find? λp=>decide (p.1=y)).or ((l.drop (aU l x)).find? λp=>decide (p.1=y)):=by
  rw[<- List.find?_append,List.take_append_drop]
 unfold oW qh;rw[List.find?_append,List.find?_cons,hl]
 by_cases e:y=x
 ·subst e
  rw[bq rfl,kS rfl]
  have:(l.take (aU l y)).find? (λp=>decide (p.1=y))=none:=List.find?_eq_none.2 λp hp=>by simpa using hn p (List.mem_of_mem_take hp)
  rw[this]
  rfl
 ·rw[aP e,fu (λq=>e q.symm)]
theorem Yc (l:ML)(x:aH)(v:List Value):(Ca l x v).map Prod.fst=l.map Prod.fst:=by
 unfold Ca;rw[List.map_map]
 refine List.map_congr_left λp _=>?_
 simp only[Function.comp]
 split
 ·rename_i h;exact h.symm
 ·rfl
theorem yV.set {l:ML}(h:yV k l)(x:aH)(hv:v.length=k)(h1:∀ u∈v,u.oneCell'=true):yV k (Ca l x v):=by
 refine⟨by rw[Yc];exact h.sorted,λp hp=>?_,λp hp=>?_⟩
 ·obtain⟨q,hq,rfl⟩:=List.mem_map.1 hp
  split
  ·exact hv
  ·exact h.wid q hq
 ·obtain⟨q,hq,rfl⟩:=List.mem_map.1 hp
  split
  ·exact h1
  ·exact h.one q hq
theorem I7 (x:aH)(v:List Value)(y:aH):∀ {l:ML},l8 l x=true->oW (Ca l x v) y=if y=x then some v else oW l y
 | [],h=>by simp[l8] at h
 | p :: l,h=>by
  unfold oW Ca;rw[mE,List.find?_cons,List.find?_cons]
  by_cases e:p.1=x
  ·rw[bq e]
   by_cases f:y=x
   ·subst f;simp
   ·rw[fu (λq=>f q.symm),aP f,fu (λq=>f (q.symm.trans e))]
    by_cases g:l8 l x=true
    ·have:=I7 x v y g
     rw[aP f] at this;exact this
    ·have hn:Ca l x v=l:=by
      unfold Ca
      conv=>rhs;rw[<- List.map_id l]
      refine List.map_congr_left λr hr=>?_
      rw[aP λq=>g (by unfold l8;exact kS (by rw[<- q];exact List.mem_map_of_mem hr))]
      rfl
     unfold Ca at hn;rw[hn]
  ·rw[aP e]
   have g:l8 l x=true:=by
    unfold l8 at h |-;have:=V7 h;rw[mE,oo] at this;exact kS (this.resolve_left λq=>e q.symm)
   by_cases f:p.1=y
   ·rw[kS f,aP (λq=>e (f.trans q))]
   ·rw[fu f]
    exact I7 x v y g
theorem acr {l:ML}(x:aH)(v:List Value)(y:aH):oW (Cb l x v) y=if y=x then some v else oW l y:=by
 unfold Cb
 split
 ·rename_i h;exact I7 x v y h
 ·rename_i h;exact QF v (by simpa using h) y
theorem yV.put {l:ML}(h:yV k l)(x:aH)(hv:v.length=k)(h1:∀ u∈v,u.oneCell'=true):yV k (Cb l x v):=by
 unfold Cb
 split
 ·exact h.set x hv h1
 ·rename_i q;exact h.ins (by simpa using q) hv h1
theorem acs (l:ML)(x:aH)(v:List Value):(Cb l x v).length<=l.length+1:=by
 unfold Cb
 split
 ·unfold Ca;rw[vL];omega
 ·rw[Cc];omega
theorem kM {k:Nat}:∀ {l:ML},(∀ p∈l,p.2.length=k)->(eF l).length=l.length * (k+1)
 | [],_=>by simp[eF]
 | p :: l,h=>by
  have:=kM (l:=l) λq hq=>h q (xu _ hq)
  unfold eF at this |-;rw[List.flatMap_cons,bQ,this,bB,dN,h p (by simp),dN,Nat.succ_mul,Nat.add_comm]
theorem Ev (a b:ML):eF (a++b)=eF a++eF b:=by unfold eF;rw[abo]
theorem Nu {k:Nat}:∀ {l:ML} (_:∀ p∈l,p.2.length=k) (i j:Nat) (hi:i<l.length),j<k+1->(eF l)[i * (k+1)+j]?=(bB l[i])[j]?
 | [],_,i,j,h,_=>absurd h (by simp)
 | p :: l,hw,0,j,_,hj=>by
  unfold eF;rw[List.flatMap_cons,Nat.zero_mul,Nat.zero_add,List.getElem?_append_left (by rw[bB,dN,hw p (by simp)];exact hj)]
  rfl
 | p :: l,hw,i+1,j,h,hj=>by
  have:=Nu (l:=l) (λq hq=>hw q (xu _ hq)) i j (by simpa using h) hj;unfold eF at this |-
  have hp:(bB p).length=k+1:=by rw[bB,dN,hw p (by simp)]
  rw[List.flatMap_cons,abj (by rw[hp,Nat.succ_mul];omega),hp,show (i+1) * (k+1)+j - (k+1)=i * (k+1)+j by rw[Nat.succ_mul];omega,this]
  rfl
theorem yA {l:ML}(h:yV k l):∀ u∈eF l,u.oneCell'=true:=λu hu=>by
 obtain⟨p,hp,hq⟩:=List.mem_flatMap.1 hu
 rcases oo.1 hq with q|q
 ·rw[q];rfl
 ·exact h.one p hp u q
theorem Dr {k:Nat}:∀ {l:ML},(∀ p∈l,p.2.length=k)->∀ i,eF (l.take i)=(eF l).take (i * (k+1))
 | [],_,i=>by simp[eF]
 | p :: l,h,0=>by simp[eF]
 | p :: l,h,i+1=>by
  have hp:(bB p).length=k+1:=by rw[bB,dN,h p (by simp)]
  have:=Dr (l:=l) (λq hq=>h q (xu _ hq)) i;unfold eF at this |-;rw[List.take_succ_cons,List.flatMap_cons,List.flatMap_cons,this,List.take_append,DL (l:=bB p) (by rw[hp,Nat.succ_mul];omega),hp,show (i+1) * (k+1) - (k+1)=i * (k+1) by rw[Nat.succ_mul];omega]
theorem Yd {l:ML}(h:∀ p∈l,p.2.length=k)(i:Nat):eF (l.drop i)=(eF l).drop (i * (k+1)):=by
 have h1:=Dr h i;have h2:=Ev (l.take i) (l.drop i);rw[List.take_append_drop,h1] at h2
 by_cases hi:i<=l.length
 ·have hl:=kM h
  have:=congrArg (List.drop (i * (k+1))) h2;rw[List.drop_append,List.drop_of_length_le (l:=(eF l).take (i * (k+1))) (by rw[qX];omega),qW,qX,Nat.min_eq_left (by rw[hl];exact Nat.mul_le_mul_right _ hi),Nat.sub_self,List.drop_zero] at this;exact this.symm
 ·rw[List.drop_of_length_le (by omega),List.drop_of_length_le (by rw[kM h];exact Nat.mul_le_mul_right _ (by omega))]
  rfl
theorem vH (l:ML)(x:aH)(v:List Value)(h:∀ p∈l,p.2.length=k):eF (qh l x v)=(eF l).take (aU l x * (k+1))++(bB (x,v)++(eF l).drop (aU l x * (k+1))):=by
 unfold qh;rw[Ev,Dr h]
 congr 1
 rw[<- Yd h];unfold eF;rw[List.flatMap_cons]
