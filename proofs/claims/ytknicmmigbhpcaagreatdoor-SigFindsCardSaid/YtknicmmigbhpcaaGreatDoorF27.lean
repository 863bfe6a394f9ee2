/- Walks and plain laws: RDefW, OfW0, ScopeOf, SigMem. -/
import Derived.Test.YtknicmmigbhpcaaGreatDoorF26
import Derived.IntWalk
set_option maxHeartbeats 16000000
set_option maxRecDepth 100000
set_option linter.unusedVariables false
set_option linter.unusedSimpArgs false
namespace Go.Proofs.YtknicmmigbhpcaaGreatDoor
open Go.RowKit Go
theorem Tryz.RV:(Tryz.prog.info? 80).map (fun i=>(i.zero,i.size,i.bytes))=some (some (.agg #[.string ⟨#[]⟩,.int .i64 0,.slice none 0 0,.int .i64 0,.int .i64 0]),5,64):=by kernel_rfl
theorem Tryz.KV:∀ args w,(callFunc 112 args).run Tryz.prog w=.ok (.enter 112 args) w:=Go.Proofs.enters_of Tryz.func112 (by kernel_rfl) rfl
def Wj (d:DD)(w:World)(e:Ending)(w':World):Prop :=
 ∃ ap cp ac cc am wn cm ae ce,e=.returned (.agg #[.bool d.pub,.string ⟨d.res.name.toArray⟩,.slice ap d.params.length cp,.int .i64 d.res.base,.slice ac d.res.clause.length cc,.int .i64 d.body.op,.string ⟨d.body.name.toArray⟩,.string ⟨d.body.module.toArray⟩,.bool (decide (d.body.num<0)),.slice am wn cm,.bool d.body.yes,.slice ae d.body.kids.length ce,.int .i64 d.body.at_,.int .i64 d.res.at_,.int .i64 d.res.bare]) ∧
  DA.inn (fun b=>w.heap.size≤b) w' d ⟨.slice ap d.params.length cp,.slice ac d.res.clause.length cc,.slice am wn cm,.slice ae d.body.kids.length ce⟩∧Below w.heap.size w w'
def Du (pb:Bool)(nm:List UInt8)(pv:Value)(base:Nat)(cv:Value)(at_:Nat)(bare:Int):Array Value :=
 #[.bool pb,.string ⟨nm.toArray⟩,pv,.int .i64 base,cv,.int .i64 0,.string ⟨#[]⟩,.string ⟨#[]⟩,.bool false,.slice none 0 0,.bool false,.slice none 0 0,.int .i64 0,.int .i64 at_,.int .i64 bare]
theorem Wm {B:Nat}{tv nv:Value}{toks:List Tok}{nodes:List Nd}(E:RdE B tv nv toks nodes)(d:cB)(u:Nat)(ho:d.ok toks u)(hl:u+d.pt.lv≤toks.length)(i:Nat)(w:World)(hr:lM nodes i u d.pt)(h:aP B w (.agg #[tv,nv]) toks nodes)(hB:B≤w.heap.size) :
  Calls Tryz.prog 68 #[.agg #[tv,nv],.int .i64 i] w (Wj (d.dd toks u) w):=by
 obtain⟨ip,adZ,ad1,ad2,ad3⟩:=info_parts Tryz.RV;have ent:=Tryz.KV;rw[d.Da] at hr hl;obtain⟨ks,hn,hk⟩:=dM hr
 have hlv:u+bB (d.its.map It.pt)≤toks.length:=by rw[PT.lv] at hl;exact hl
 have K:=Wi ho hlv hk
 obtain⟨k0,hq0,hl0,hu0⟩:=K.first
 obtain⟨k1,hq1,hl1,hu1⟩:=K.name;obtain⟨k2,hq2,hr2,hu2⟩:=K.body;have ae0:=K.many;have Y5:=K.pub;have hks:=E.few _ (List.mem_of_getElem? hn)
 obtain⟨a,ha1,ha2,ha3,HTY⟩:∃ a:VN,(d.dd toks u).res.base=a.base∧(d.dd toks u).res.clause=a.clause∧(d.dd toks u).res.bare=a.bare∧Hid (∀ W,aP B W (.agg #[tv,nv]) toks nodes→B≤W.heap.size→Calls Tryz.prog 111 #[.agg #[tv,nv],.int .i64 i] W (Im a W)):=⟨⟨_,_,_⟩,rfl,rfl,rfl,ah (fun W hT hW=>Y3 E d u ho ks hlv i hn hk W hT hW)⟩
 have hdd:d.dd toks u=⟨d.pub,eO toks u d.its,⟨(bL toks (d.Cj u+1)).text,a.base,a.clause,(bL toks (d.Cj u+1)).place,a.bare⟩,d.body.pe toks (d.at3 u)⟩:=by
  rw[← ha1,← ha2,← ha3,d.VO];rfl
 rw[hdd];clear hdd ha1 ha2 ha3
 obtain⟨jS,Wn⟩:∃ jS,jS=eO toks u d.its:=⟨_,rfl⟩
 rw[← Wn];have HPS:=ah Wn;clear Wn;have Vo:Hid (∀ W,aP B W (.agg #[tv,nv]) toks nodes→B≤W.heap.size→Calls Tryz.prog 113 #[.agg #[tv,nv],.int .i64 k2] W (Uv (d.body.pe toks (d.at3 u)) W)):=ah (fun W hT hW=>(E.exprs false d.body (d.at3 u) ho.2.2.2.2.2.2 hu2 k2 W hr2 hT hW).mono fun _ _ h=>h.s)
 have acP:Hid (∀ (t:fu) (v:Nat),(It.par t,v)∈cK u d.its→∀ (m:Nat) (W:World),lM nodes m v t.par→aP B W (.agg #[tv,nv]) toks nodes→B≤W.heap.size→Calls Tryz.prog 112 #[.agg #[tv,nv],.int .i64 m] W (NW (t.sZ toks v) W)):=ah (fun t v hm m W hrm hT hW=>by
  have hend:=qI _ _ _ hm
  exact Oa E t v (abb ho hm) (by simp only[It.pt] at hend;omega) m W hrm hT hW)
 have Wo:Hid (∀ W,aP B W (.agg #[tv,nv]) toks nodes→B≤W.heap.size→Calls Tryz.prog 67 #[.agg #[tv,nv],.int .i64 k1] W fun e w'=>e=.returned (mV (bL toks (d.Cj u+1)))∧Below W.heap.size W w'):=ah (fun W hT hW=>by
  have:=jC B tv nv toks nodes k1 (d.Cj u+1) W hT hW hl1 hu1;have e:=iO hu1;rw[List.getElem?_eq_getElem hu1] at e;rw[Option.some.inj e] at this
  exact this)
 have LP:Hid (∀ W,aP B W (.agg #[tv,nv]) toks nodes→B≤W.heap.size→Calls Tryz.prog 110 #[.agg #[tv,nv],.int .i64 k0] W fun e w'=>e=.returned (.string (if d.pub=true then ⟨#[112,117,98]⟩ else ⟨#[102,117,110]⟩))∧Below W.heap.size W w'):=ah (fun W hT hW=>by
  have:=uw B tv nv toks nodes k0 u W hT hW hl0 hu0;have e:=iO hu0;rw[List.getElem?_eq_getElem hu0] at e;rw[Option.some.inj e] at this
  have e2:(bL toks u).text=if d.pub=true then yS else G8:=by
   cases hd:d.pub with
   | true=>exact ho.1 hd
   | false =>
    have h1:=ho.2.1;unfold cB.Cj cB.lead at h1;rw[hd] at h1;simp only[Bool.false_eq_true,if_false,bB,Nat.add_zero] at h1;exact h1
  rw[e2] at this;unfold bY at this
  cases hd:d.pub<;>(rw[hd] at this;exact this))
 obtain⟨hlk,hrp⟩:=xW _ _ _ hk;have HRP:=ah hrp;have HLK:Hid (ks.length=(cK u d.its).length):=ah (by rw[qH];exact hlk);have HRD:=ah (Dn toks d.its u)
 have hpl:(eO toks u d.its).length≤1000000:=by
  have:=Dp toks d.its u;simp only at hks;omega
 have HIT:=ah (show d.its.length=ks.length from hlk.symm);generalize d.body.pe toks (d.at3 u)=x at Vo ⊢;generalize hpb:d.pub=pb at hq1 LP ⊢;generalize hqq:(if pb=true then 2 else 1)=q at hq1;have HQ:=ah hqq;unfold mV bY at Wo;generalize bL toks (d.Cj u+1)=t at Wo ⊢;obtain⟨tk,tl,tt,tp⟩:=t;simp only at Wo ⊢;have HT:=ah h;obtain⟨hi,hni⟩:=mR hn;obtain⟨a1,c1,_,_,e⟩:=h.slices;obtain⟨b,off,cap,kv,rfl,hb,y0,y1,y2,hkv⟩:=h.node hi
 obtain⟨rfl,-⟩:tv=.slice a1 toks.length c1∧_:=by simpa using e
 rw[hni] at hkv;simp only at hkv;obtain⟨ak,ck,rfl,_,uT⟩:=hkv.form;obtain⟨bk,ok,rfl,hbk,hkc⟩:=uT (by omega);obtain⟨ad4,aak⟩:=mR hq0;obtain⟨ad5,aal⟩:=mR hq1;obtain⟨ad6,aam⟩:=mR hq2;have z0:=hkc 0 ad4;have z1:=hkc q ad5;have z2:=hkc (ks.length - 2) ad6;rw[aak,Nat.add_zero] at z0;rw[aal] at z1;rw[aam] at z2;have Tm:=ah hkc;have bq:=((Below.refl w.heap.size w).alloc (Nat.le_refl _) (.cells #[.slice a1 toks.length c1,.slice (some ⟨b,off,none⟩) nodes.length cap] 132)).alloc (by simp) (.cells #[.bool false,.string ⟨#[]⟩,.slice none 0 0,.int .i64 0,.slice none 0 0,.int .i64 0,.string ⟨#[]⟩,.string ⟨#[]⟩,.bool false,.slice none 0 0,.bool false,.slice none 0 0,.int .i64 0,.int .i64 0,.int .i64 0] 48);have g0:=(Lib.alloc_old _ (.cells #[.bool false,.string ⟨#[]⟩,.slice none 0 0,.int .i64 0,.slice none 0 0,.int .i64 0,.string ⟨#[]⟩,.string ⟨#[]⟩,.bool false,.slice none 0 0,.bool false,.slice none 0 0,.int .i64 0,.int .i64 0,.int .i64 0] 48) w.heap.size (by simp)).trans (heap_alloc_new w (.cells #[.slice a1 toks.length c1,.slice (some ⟨b,off,none⟩) nodes.length cap] 132));have g1:=heap_alloc_new (w.alloc (.cells #[.slice a1 toks.length c1,.slice (some ⟨b,off,none⟩) nodes.length cap] 132)) (.cells #[.bool false,.string ⟨#[]⟩,.slice none 0 0,.int .i64 0,.slice none 0 0,.int .i64 0,.string ⟨#[]⟩,.string ⟨#[]⟩,.bool false,.slice none 0 0,.bool false,.slice none 0 0,.int .i64 0,.int .i64 0,.int .i64 0] 48);rw[World.size_alloc] at g1;have Y2:=cell_later bq y2;have Z0:=cell_later bq z0;have Z1:=cell_later bq z1;have Z2:=cell_later bq z2
 have hiI:(i:Int)<(nodes.length:Int):=by omega
 have aft:(0:Int)<(ks.length:Int):=by omega
 have afu:(q:Int)<(ks.length:Int):=by omega
 clear h e y0 y1 y2 z0 z1 z2 hkv uT hkc hn hni hlk hrp hk hr hlv hl ho hq0 hq1 hq2 aak aal aam hl0 hl1 hr2 hu0 hu1 hu2 Y5 K E hpb hqq;go_enter Tryz.func68,Tryz.ntmps68;obtain⟨r0,r1⟩:=jU g0
 go_upto_region 2 with (fail)
 generalize (w.alloc _).alloc _=w2 at g0 g1 bq Y2 Z0 Z1 Z2 r0 r1 ⊢;have hz2:=bq.size;have hlt2:w.heap.size+1<w2.heap.size:=(bG g1).1
 have hne0:w.heap.size≠w2.heap.size:=by omega
 have hne1:bk≠w2.heap.size:=by omega
 have Tp:=ah (fun W (hb:Below w2.heap.size w2 W)=>(LP.out W (HT.out.below ((bq.trans (hb.mono hz2)).mono hB)) (by have:=hb.size;omega)).mono (R':=fun e w'=>e=.returned (.string (if pb=true then ⟨#[112,117,98]⟩ else ⟨#[102,117,110]⟩))∧Below w2.heap.size w2 w'∧Below W.heap.size W w') fun e w' h=>⟨h.1,hb.trans (h.2.mono hb.size),h.2⟩)
 go_cut [6] (fun p wc=>∃ X:Nat,p=.pointer (some ⟨X,0,none⟩)∧wc.heap[X]?=some (.cells (Du pb [] (.slice none 0 0) 0 (.slice none 0 0) 0 0) 48 (0,0))∧Below w2.heap.size w2 wc∧w2.heap.size≤X)
 case first =>
  cases pb with
  | true =>
   simp only[if_true] at Tp
   go_region_held3 (fun w'=>w'.cell? ⟨w.heap.size,0,none⟩=some (.slice a1 toks.length c1)∧w'.cell? ⟨w.heap.size,1,none⟩=some (.slice (some ⟨b,off,none⟩) nodes.length cap)∧w'.cell? ⟨bk,ok,none⟩=some (.int .i64 k0))
    (first|(with_reducible exact p3)|((try dsimp only);with_reducible exact And.intro ((l8 w3 w2.heap.size _ _ _ _ _ _ _ _ _ _ _ _ _ _ _ hne0).trans p3.1) (And.intro ((l8 w3 w2.heap.size _ _ _ _ _ _ _ _ _ _ _ _ _ _ _ hne0).trans p3.2.1) ((l8 w3 w2.heap.size _ _ _ _ _ _ _ _ _ _ _ _ _ _ _ hne1).trans p3.2.2)))|(go_keep;done))
    (first|(go_at_call 110;refine(Tp.out _ ?_).mono ?_;(first|exact(Below.refl _ _).drew|exact((Below.refl _ _).alloc (Nat.le_refl _) _).drew);rintro e w3 ⟨rfl,hq3,hb3⟩;have p3:=And.intro (cell_later hq3 r0) (And.intro (cell_later hq3 r1) (cell_later hq3 Z0));try (have Dg:=(hb3.block w2.heap.size (by simp)).trans (heap_alloc_new w2 (.cells #[.bool false,.string ⟨#[]⟩,.slice none 0 0,.int .i64 0,.slice none 0 0,.int .i64 0,.string ⟨#[]⟩,.string ⟨#[]⟩,.bool false,.slice none 0 0,.bool false,.slice none 0 0,.int .i64 0,.int .i64 0,.int .i64 0] 48));obtain⟨⟨e0,e1,e2,e3,e4⟩,⟨e5,e6,e7,e8,e9⟩,⟨e10,e11,e12,e13,e14⟩,ez⟩:=fH Dg)))
   ·clear r0 r1 Z0 p3
    go_wp2_with fail
    go_meet
    exact⟨w3.heap.size,rfl,heap_alloc_new _ _,hq3.alloc hq3.size _,hq3.size⟩
   ·clear r0 r1 Z0 p3
    go_wp2_with fail
    go_meet
    exact⟨w2.heap.size,rfl,Dt Dg _ _ _ _ _ _ _ _ _ _ _ _ _ _ _,tX hq3 (Nat.le_refl _) _ _ _ _ _ _ _ _ _ _ _ _ _ _ _,Nat.le_refl _⟩
  | false =>
   simp only[Bool.false_eq_true,if_false] at Tp
   go_region_held3 (fun w'=>w'.cell? ⟨w.heap.size,0,none⟩=some (.slice a1 toks.length c1)∧w'.cell? ⟨w.heap.size,1,none⟩=some (.slice (some ⟨b,off,none⟩) nodes.length cap)∧w'.cell? ⟨bk,ok,none⟩=some (.int .i64 k0))
    (first|(with_reducible exact p3)|((try dsimp only);with_reducible exact And.intro ((l8 w3 w2.heap.size _ _ _ _ _ _ _ _ _ _ _ _ _ _ _ hne0).trans p3.1) (And.intro ((l8 w3 w2.heap.size _ _ _ _ _ _ _ _ _ _ _ _ _ _ _ hne0).trans p3.2.1) ((l8 w3 w2.heap.size _ _ _ _ _ _ _ _ _ _ _ _ _ _ _ hne1).trans p3.2.2)))|(go_keep;done))
    (first|(go_at_call 110;refine(Tp.out _ ?_).mono ?_;(first|exact(Below.refl _ _).drew|exact((Below.refl _ _).alloc (Nat.le_refl _) _).drew);rintro e w3 ⟨rfl,hq3,hb3⟩;have p3:=And.intro (cell_later hq3 r0) (And.intro (cell_later hq3 r1) (cell_later hq3 Z0));try (have Dg:=(hb3.block w2.heap.size (by simp)).trans (heap_alloc_new w2 (.cells #[.bool false,.string ⟨#[]⟩,.slice none 0 0,.int .i64 0,.slice none 0 0,.int .i64 0,.string ⟨#[]⟩,.string ⟨#[]⟩,.bool false,.slice none 0 0,.bool false,.slice none 0 0,.int .i64 0,.int .i64 0,.int .i64 0] 48));obtain⟨⟨e0,e1,e2,e3,e4⟩,⟨e5,e6,e7,e8,e9⟩,⟨e10,e11,e12,e13,e14⟩,ez⟩:=fH Dg)))
   ·clear r0 r1 Z0 p3
    go_wp2_with fail
    go_meet
    exact⟨w3.heap.size,rfl,heap_alloc_new _ _,hq3.alloc hq3.size _,hq3.size⟩
   ·clear r0 r1 Z0 p3
    go_wp2_with fail
    go_meet
    exact⟨w2.heap.size,rfl,Dt Dg _ _ _ _ _ _ _ _ _ _ _ _ _ _ _,tX hq3 (Nat.le_refl _) _ _ _ _ _ _ _ _ _ _ _ _ _ _ _,Nat.le_refl _⟩
 case rest =>
  obtain⟨X,rfl,hX,hbc,hXl⟩:=hcut
  obtain⟨w4,rfl⟩:∃ w4:World,w4=wc:=⟨_,rfl⟩
  have hX4:=(bG hX).1;have G0:=(hbc.block w.heap.size (by omega)).trans g0;have G1:=(hbc.block (w.heap.size+1) hlt2).trans g1;have hb4:Below w.heap.size w w4:=bq.trans (hbc.mono hz2);have Kv:=hbc.size;have Z1':=cell_later hbc Z1;obtain⟨⟨d0,d1,d2,d3,d4⟩,⟨d5,d6,d7,d8,d9⟩,⟨XJ,XK,XL,XM,XO⟩,dz⟩:=fH hX;clear Z0 Z1 r0 r1 Tp
  go_upto_if 26 with fail
  go_cut [7] (fun v wc=>v=.int .i64 q∧wc=w4)
  case first =>
   cases pb
   all_goals
    have hq:=HQ.out;simp only[if_true,Bool.false_eq_true,if_false] at hq;subst hq;go_wp2
    go_meet
    exact⟨rfl,rfl⟩
  case rest =>
   obtain⟨rfl,rfl⟩:=hcut
   obtain⟨w4,rfl⟩:∃ w4:World,w4=wc:=⟨_,rfl⟩
   obtain⟨r0,r1⟩:=jU G0;have VU:=ah (fun W (hb:Below w4.heap.size w4 W)=>(Wo.out W (HT.out.below ((hb4.trans (hb.mono hb4.size)).mono hB)) (by have:=hb4.size;have:=hb.size;omega)).mono (R':=fun e w'=>e=.returned (.agg #[.int .i64 tk,.string ⟨tl.toArray⟩,.string ⟨tt.toArray⟩,.int .i64 tp])∧Below w4.heap.size w4 w'∧Below W.heap.size W w') fun e w' h=>⟨h.1,hb.trans (h.2.mono hb.size),h.2⟩);clear d0 d1 d2 d3 d4 d5 d6 d7 d8 d9 XJ XK XL XM XO dz
   go_upto_region 6 with fail
   go_cut [8] (fun p wc=>∃ Y:Nat,p=.pointer (some ⟨Y,0,none⟩)∧wc.heap[Y]?=some (.cells #[.int .i64 tk,.string ⟨tl.toArray⟩,.string ⟨tt.toArray⟩,.int .i64 tp] 136 (0,0))∧Below w4.heap.size w4 wc)
   case first =>
    go_region_held3 (fun w'=>w'.cell? ⟨w.heap.size,0,none⟩=some (.slice a1 toks.length c1)∧w'.cell? ⟨w.heap.size,1,none⟩=some (.slice (some ⟨b,off,none⟩) nodes.length cap)∧w'.cell? ⟨bk,ok+q,none⟩=some (.int .i64 k1))
     (first|go_keep|exact p3|exact⟨(bD w3 w4.heap.size _ _ _ _ (by omega)).trans p3.1,(bD w3 w4.heap.size _ _ _ _ (by omega)).trans p3.2.1,(bD w3 w4.heap.size _ _ _ _ (by omega)).trans p3.2.2⟩)
     (first|(go_at_call 67;refine(VU.out _ ?_).mono ?_;(first|exact(Below.refl _ _).drew|exact((Below.refl _ _).alloc (Nat.le_refl _) _).drew);rintro e w3 ⟨rfl,hq3,hb3⟩;have p3:=And.intro (cell_later hq3 r0) (And.intro (cell_later hq3 r1) (cell_later hq3 Z1'));try (have Dg:=(hb3.block w4.heap.size (by simp)).trans (heap_alloc_new w4 (.cells #[.int .i64 0,.string ⟨#[]⟩,.string ⟨#[]⟩,.int .i64 0] 136));obtain⟨VW,VX,VY,VZ,V3⟩:=l7 Dg)))
    ·clear r0 r1 Z1' p3
     go_wp2_with fail
     go_meet
     exact⟨w3.heap.size,rfl,heap_alloc_new _ _,hq3.alloc hq3.size _⟩
    ·obtain⟨S3,So,_⟩:=vK Dg (.int .i64 tk) (.string ⟨tl.toArray⟩) (.string ⟨tt.toArray⟩) (.int .i64 tp)
     clear r0 r1 Z1' p3 VW VX VY VZ V3;go_wp2_with fail
     go_meet
     exact⟨w4.heap.size,rfl,S3,(((hq3.setCell (Nat.le_refl _) _).setCell (Nat.le_refl _) _).setCell (Nat.le_refl _) _).setCell (Nat.le_refl _) _⟩
   case rest =>
    obtain⟨Y,rfl,hY,Y6⟩:=hcut
    obtain⟨w5,rfl⟩:∃ w5:World,w5=wc:=⟨_,rfl⟩
    have hX5:=(Y6.block X hX4).trans hX;have hb5:Below w2.heap.size w2 w5:=hbc.trans (Y6.mono Kv);have afv:X<w5.heap.size:=Nat.lt_of_lt_of_le hX4 Y6.size;obtain⟨f2,f3⟩:=ru hY;obtain⟨⟨d0,d1,d2,d3,d4⟩,⟨d5,d6,d7,d8,d9⟩,⟨XJ,XK,XL,XM,XO⟩,dz⟩:=fH hX5;clear hX hbc Y6 Z1' r0 r1 VU hb4 G0 G1 hY
    go_upto_region 7 with fail
    go_cut [] (fun wc=>wc.heap[X]?=some (.cells (Du pb tt (.slice none 0 0) 0 (.slice none 0 0) tp 0) 48 (0,0))∧Below w2.heap.size w2 wc)
    case first =>
     go_region
     all_goals
      go_wp2_with fail
      go_meet
      have T1:=heap_setCell_same w5 X 1 _ _ (.string ⟨tt.toArray⟩) hX5;have T2:=heap_setCell_same _ X 13 _ _ (.int .i64 tp) T1;exact⟨T2,((hb5.setCell hXl _).setCell hXl _).drew⟩
    case rest =>
     obtain⟨hX6,hb6⟩:=hcut
     obtain⟨w6,rfl⟩:∃ w6:World,w6=wc:=⟨_,rfl⟩
     have hz6:=hb6.size;have ad7:=(bG hX6).1;have NZ:Below w.heap.size w w6:=bq.trans (hb6.mono hz2);have G0:=(hb6.block w.heap.size (by omega)).trans g0;obtain⟨r0,r1⟩:=jU G0;have HAW:=ah (HTY.out w6 (HT.out.below (NZ.mono hB)) (Nat.le_trans hB NZ.size));clear d0 d1 d2 d3 d4 d5 d6 d7 d8 d9 XJ XK XL XM XO dz f2 f3 hX5 hb5 HTY;go_wp2_with (go_at_call 111;refine HAW.out.mono ?_);rintro e w7 ⟨ao,cc,rfl,hrow,pI⟩;have hX7:=(pI.block X ad7).trans hX6;obtain⟨⟨d0,d1,d2,d3,d4⟩,⟨d5,d6,d7,d8,d9⟩,⟨XJ,XK,XL,XM,XO⟩,dz⟩:=fH hX7;clear r0 r1 HAW
     go_upto_region 9 with fail
     have T1:=heap_setCell_same w7 X 3 _ _ (.int .i64 a.base) hX7;have T2:=heap_setCell_same _ X 4 _ _ (.slice ao a.clause.length cc) T1;have T3:=heap_setCell_same _ X 14 _ _ (.int .i64 a.bare) T2;have hX8:(((w7.setCell ⟨X,3,none⟩ (.int .i64 a.base)).setCell ⟨X,4,none⟩ (.slice ao a.clause.length cc)).setCell ⟨X,14,none⟩ (.int .i64 a.bare)).heap[X]?=some (.cells (Du pb tt (.slice none 0 0) a.base (.slice ao a.clause.length cc) tp a.bare) 48 (0,0)):=T3;have acQ:Below w2.heap.size w2 w7:=hb6.trans (pI.mono hz6);have jr:Below w2.heap.size w2 (((w7.setCell ⟨X,3,none⟩ (.int .i64 a.base)).setCell ⟨X,4,none⟩ (.slice ao a.clause.length cc)).setCell ⟨X,14,none⟩ (.int .i64 a.bare)):=((acQ.setCell hXl _).setCell hXl _).setCell hXl _
     have hs:∀ (W:World) (j:Nat) (v:Value),aQ (fun b=>w6.heap.size≤b) W (W.setCell ⟨X,j,none⟩ v):=fun W j v=>aQ.set v fun b hb=>by show b≠X;omega
     have Wp:=hrow.frame (((hs w7 3 (.int .i64 a.base)).trans (hs _ 4 (.slice ao a.clause.length cc))).trans (hs _ 14 (.int .i64 a.bare)))
     have hz8:w6.heap.size≤(((w7.setCell ⟨X,3,none⟩ (.int .i64 a.base)).setCell ⟨X,4,none⟩ (.slice ao a.clause.length cc)).setCell ⟨X,14,none⟩ (.int .i64 a.bare)).heap.size:=by simpa using pI.size
     clear T1 T2 T3 hX7 hX6 hb6 pI acQ hs hrow d0 d1 d2 d3 d4 d5 d6 d7 d8 d9 XJ XK XL XM XO dz G0 NZ;generalize ((w7.setCell _ _).setCell _ _).setCell _ _=wl at hX8 jr Wp hz8 ⊢
     have ad8:X<wl.heap.size:=by omega
     have hzl:=jr.size;have G0:=(jr.block w.heap.size (by omega)).trans g0;have G1:=(jr.block (w.heap.size+1) hlt2).trans g1;go_wp2
     go_loopw [51] (fun q' wr=>∃ (j n:Nat) (ap:Option Addr) (cp:Nat),j≤ks.length∧n=(eO toks u (d.its.take j)).length∧q'=.int .i64 j∧aQ (fun b=>b<wl.heap.size∧b≠X) wl wr∧wr.heap[X]?=some (.cells (Du pb tt (.slice ap n cp) a.base (.slice ao a.clause.length cc) tp a.bare) 48 (0,0))∧fV (FK XA) wl.heap.size 80 wr (.slice ap n cp) (eO toks u (d.its.take j))∧Below w2.heap.size w2 wr) (fun q' _=>ks.length - (intOf q').toNat)
     case atStart=>exact⟨0,0,none,0,Nat.zero_le _,by rw[List.take_zero,eO];rfl,rfl,aQ.refl _ _,hX8,by rw[List.take_zero,eO];exact fV.nil _ _ _ _,jr⟩
     case round =>
      obtain⟨j,n,ap,cp,hj,hn,rfl,dW,Wq,hrow,hbl⟩:=hrel;have acR:=dW.1;have hr0:=(dW.2 w.heap.size ⟨by omega,by omega⟩ (by omega)).trans G0;have Iq:Below w.heap.size w wr:=bq.trans (hbl.mono hz2);have ad9:=Dp toks (d.its.take j) u;rw[← hn,List.length_take] at ad9
      by_cases hjl:j<ks.length
      ·
       have hx:=(Iq.cell (p:=⟨bk,ok+j,none⟩) (by show bk<_;omega)).trans (Tm.out j hjl)
       have hjp:j<(cK u d.its).length:=by have:=HLK.out;omega
       have hrep:=HRP.out j hjl hjp;have hst:=HRD.out j hjp;have hmem:=List.getElem_mem hjp;generalize (cK u d.its)[j]=it at hrep hst hmem;obtain⟨it,v⟩:=it;simp only at hrep hst;generalize ks[j]=qk at hx hrep;obtain⟨m,xn,rfl,hnx,hkx⟩:=KR hrep;obtain⟨hm,RQ⟩:=mR hnx;obtain⟨b',off',cap',kv',e',_,y0,_,_,_⟩:=HT.out.node hm
       obtain⟨⟨rfl,rfl⟩,rfl⟩:(b=b'∧off=off')∧cap=cap':=by simpa using e'
       rw[RQ] at y0;have y0':=(Iq.cell (p:=⟨b,off+m * 3,none⟩) (by show b<_;omega)).trans y0
       have Tg:(m:Int)<(nodes.length:Int):=by omega
       have JC:(j:Int)<(ks.length:Int):=by omega
       obtain⟨r0',r1'⟩:=jU hr0;generalize eO toks u (d.its.take j)=acc at hn hrow hst;have HN:=ah hn;have HST:=ah hst;clear hn hst y0 e' hnx RQ hX8 jr G0 G1 g0 g1 Y2 bq
       by_cases hpar:∃ t,it=.par t
       ·obtain⟨tS,rfl⟩:=hpar
        have hk4:xn.kind=4:=hkx;rw[hk4] at y0';have HC:=ah (acP.out tS v hmem m wr.drew hrep (HT.out.below (Iq.mono hB).drew) (Nat.le_trans hB Iq.size));have hst':eO toks u (d.its.take (j+1))=acc++[tS.sZ toks v]:=HST.out;generalize tS.sZ toks v=f at HC hst';have HS2:=ah hst';obtain⟨vX,h1,hown,hes⟩:=hrow;rw[← HN.out] at hown;have abd:=(bG Wq).1;obtain⟨⟨d0,d1,d2,d3,d4⟩,⟨d5,d6,d7,d8,d9⟩,⟨XJ,XK,XL,XM,XO⟩,dz⟩:=fH Wq
        have hlts:∀ b,some b=(Value.slice ap n cp).ownBlock→wl.heap.size≤b∧b<wr.heap.size:=fun b q=>hown.lt b q.symm
        have Ws:some X≠(Value.slice ap n cp).ownBlock:=fun q=>by have:=(hlts X q).1;omega
        clear hst' HST hk4 hkx hrep hmem d0 d1 d3 d4 d5 d6 d7 d8 d9 XJ XK XL XM XO;have HL:=ah hlts;clear hlts;go_wp2
        go_region_law ((first
         | (refine step_append_lies _ (by rfl) _ _ _ (by rfl) wl.heap.size 80 ip _ 5 64 Tryz.underlying41 adZ ad1 ad2 ad3 rfl (by omega) (.slice ap n cp) n _ (by rfl) ((own_below (pV hown) hb2).alloc _) ⟨W2.heap.size,0,none⟩ 1 1 [.string ⟨f.name.toArray⟩,.int .i64 f.base,.slice ao2 f.clause.length cc2,.int .i64 f.at_,.int .i64 f.bare] (by rfl) (by rfl) (World.news_of_block (cs:=#[.string ⟨f.name.toArray⟩,.int .i64 f.base,.slice ao2 f.clause.length cc2,.int .i64 f.at_,.int .i64 f.bare]) (t:=80) (fr:=(0,0)) (heap_alloc_new W2 _)) (by simp[Value.oneCell']) (by omega) (by unfold maxLen;omega) (by omega) (by have:=hb2.size;simp at this ⊢;omega) (W2.heap.size+1) (by simp) ?_;intro gg cap5 w5' hown5 iw yL Qv;have rU:=(iw.block X (by have:=hb2.size;simp at this ⊢;omega) Ws).trans ((Lib.alloc_old W2 _ X (by have:=hb2.size;simp at this;omega)).trans BQ);have r65:=(fH rU).1.2.2.1;have z65:=(fH rU).2.2.2 2)
         | (refine uD rfl 112 _ _ rfl HC.out (by rfl) (ent _ _) ?_;rintro e W2 ⟨ao2,cc2,rfl,hxe,hb2⟩;refine⟨_,rfl,?_⟩;have BQ:=(hb2.block X abd).trans Wq;have ZU:=(fH BQ).1.2.2.1;have r63:=fun o=>Lib.cell?_alloc_some o ZU)))
        all_goals
         obtain⟨q1,q2,q3⟩:=kH.round (K:=FK XA) (Q:=fun b=>wl.heap.size≤b) (wr:=wr.drew) (kv:=.slice ap n cp) (QM:=.slice (some ⟨gg,0,none⟩) (n+1) cap5) (acc:=acc) (a:=f) (x:=.slice ao2 f.clause.length cc2) (l:=vX) (show aQ _ wl wr.drew from dW) ad8 (by omega) h1 (by rw[← HN.out];exact hown) (fun p hp=>(FK XA).frame (hes p hp) (aQ.drew _ wr)) ((FK XA).imp (P:=fun b=>wr.drew.heap.size≤b) hxe fun b hb _=>⟨Nat.le_trans acR hb,fun q=>by have:=(HL.out b q).2;have:wr.drew.heap.size=wr.heap.size:=rfl;omega⟩) hb2 (by rw[← HN.out];exact hown5) iw rfl yL 2 (.slice (some ⟨gg,0,none⟩) (n+1) cap5);have BR:(w5'.setCell ⟨X,2,none⟩ (.slice (some ⟨gg,0,none⟩) (n+1) cap5)).heap[X]?=some (.cells (Du pb tt (.slice (some ⟨gg,0,none⟩) (n+1) cap5) a.base (.slice ao a.clause.length cc) tp a.bare) 48 (0,0)):=heap_setCell_same w5' X 2 _ _ _ rU;have yQ:=q3 w2.heap.size w2 hXl hbl.drew;clear iw hown5 yL rU r65 z65 BQ ZU r63 hxe hb2 HC hes hown dW Wq d2 dz hx y0' r0' r1' hr0 Iq hbl h1;generalize w5'.setCell _ _=w6' at q1 q2 BR yQ ⊢;go_wp2
         go_roundw
         case rel =>
          refine⟨j+1,n+1,some ⟨gg,0,none⟩,cap5,by omega,?_⟩;rw[HS2.out];exact⟨by rw[bP,← HN.out];rfl,by go_num,q2,BR,q1,yQ⟩
         case measure=>simp[intOf];omega
       ·have hne:=it.N8 (fun t e=>hpar ⟨t,e⟩)
        have HPO:=ah (it.RS toks v (fun t e=>hpar ⟨t,e⟩));rw[← hkx] at hne;generalize xn.kind=kx at y0' hne
        have t4:(kx == 4)=false:=by rw[← Bool.not_eq_true,beq_iff_eq];exact hne
        clear hne hpar hkx hrep hmem;go_wp2
        go_roundw
        case rel =>
         have e1:=HST.out;rw[HPO.out,List.append_nil] at e1;refine⟨j+1,n,ap,cp,by omega,?_⟩;rw[e1];exact⟨HN.out,by go_num,dW,Wq,hrow,hbl⟩
        case measure=>simp[intOf];omega
      ·obtain rfl:j=ks.length:=by omega
       have hti:d.its.take ks.length=d.its:=List.take_of_length_le (by have:=HIT.out;omega);rw[hti,← HPS.out] at hn hrow;have JC:decide ((ks.length:Int)<(ks.length:Int))=false:=decide_eq_false (by omega);have HN:=ah hn;have abd:=(bG Wq).1;have G1r:=(dW.2 (w.heap.size+1) ⟨by omega,by omega⟩ (by omega)).trans G1
       have acS:RowK (EK XA) (fun b=>w6.heap.size≤b∧b<wl.heap.size) wr (.slice ao a.clause.length cc) a.clause:=(Wp.imp (Q:=fun b=>(w6.heap.size≤b∧b<wl.heap.size)∧b<wl.heap.size∧b≠X) fun b hb hl=>⟨⟨hb,hl⟩,hl,by omega⟩).frame ⟨dW.1,fun b hb hl=>dW.2 b hb.2 hl⟩ |>.imp fun b hb _=>hb.1
       have hpr:=hrow.row
       have hz0:wr.cell? ⟨bk,ok+(ks.length - 2),none⟩=some (.int .i64 k2):=(cell_later hbl Z2)
       have HC:=ah (Vo.out wr.drew (HT.out.below (Iq.mono hB).drew) (Nat.le_trans hB Iq.size));obtain⟨r0',r1'⟩:=jU hr0;clear hn hti Wp hX8 jr hrow dW G0 G1 g0 g1 Y2 Vo acP HRD HRP Tm Z2
       have acT:w.heap.size≠X:=by omega
       have aea:bk≠X:=by omega
       have hwr2:IntKind.i64.wrap ((ks.length:Int) - 2)=(ks.length:Int) - 2:=IntWalk.i64_in _ (by omega)
       have hw0:(0:Int)≤(ks.length:Int) - 2:=by omega
       have hw2:(2:Int)≤(ks.length:Int):=by omega
       have hw3:(ks.length:Int) - 2<(ks.length:Int):=by omega
       have hw4:((ks.length:Int) - 2).toNat=ks.length - 2:=by omega
       go_wp2
       go_region_held3 (fun w'=>w'.cell? ⟨w.heap.size,0,none⟩=some (.slice a1 toks.length c1)∧w'.cell? ⟨w.heap.size,1,none⟩=some (.slice (some ⟨b,off,none⟩) nodes.length cap)∧w'.cell? ⟨bk,ok+(ks.length - 2),none⟩=some (.int .i64 k2))
        (first|(with_reducible exact p3)|((try dsimp only);with_reducible exact And.intro ((vW w9 X _ _ _ _ _ _ _ _ acT).trans p3.1) (And.intro ((vW w9 X _ _ _ _ _ _ _ _ acT).trans p3.2.1) ((vW w9 X _ _ _ _ _ _ _ _ aea).trans p3.2.2)))|(go_keep;done))
        ((go_at_call 113;refine HC.out.mono ?_;rintro e w9 ⟨am,wn,cm,ae,ce,rfl,NS,Cz⟩;have Tk:Below wr.heap.size wr w9:=(Below.refl wr.heap.size wr).drew.trans Cz;have p3:=And.intro (cell_later Tk r0') (And.intro (cell_later Tk r1') (cell_later Tk hz0));have hX9:=(Tk.block X abd).trans Wq;obtain⟨⟨d0,d1,d2,d3,d4⟩,⟨d5,d6,d7,d8,d9⟩,⟨XJ,XK,XL,XM,XO⟩,dz⟩:=fH hX9))
       obtain rfl:=HN.out
       have hle:w.heap.size≤X:=by omega
       have hR1:=(bG G1r).1;have acU:=Ob (show w9.heap[X]?=some (.cells #[.bool pb,.string ⟨tt.toArray⟩,.slice ap jS.length cp,.int .i64 a.base,.slice ao a.clause.length cc,.int .i64 0,.string ⟨#[]⟩,.string ⟨#[]⟩,.bool false,.slice none 0 0,.bool false,.slice none 0 0,.int .i64 0,.int .i64 tp,.int .i64 a.bare] 48 (0,0)) from hX9) (.int .i64 x.op) (.string ⟨x.name.toArray⟩) (.string ⟨x.module.toArray⟩) (.bool (decide (x.num<0))) (.slice am wn cm) (.bool x.yes) (.slice ae x.kids.length ce) (.int .i64 x.at_);have oL:=KU (Iq.trans (Tk.mono Iq.size)) hle (.int .i64 x.op) (.string ⟨x.name.toArray⟩) (.string ⟨x.module.toArray⟩) (.bool (decide (x.num<0))) (.slice am wn cm) (.bool x.yes) (.slice ae x.kids.length ce) (.int .i64 x.at_)
       have hA:=fun P hP=>RU P w9 X (.int .i64 x.op) (.string ⟨x.name.toArray⟩) (.string ⟨x.module.toArray⟩) (.bool (decide (x.num<0))) (.slice am wn cm) (.bool x.yes) (.slice ae x.kids.length ce) (.int .i64 x.at_) hP
       have G10:=((hA (fun k=>k≠X) (fun k hk=>hk)).2 (w.heap.size+1) (by omega) (Nat.lt_of_lt_of_le hR1 Tk.size)).trans ((Tk.block _ hR1).trans G1r);have Yp:=(hpr.frame (aQ.of Tk)).frame (hA (fun b=>wl.heap.size≤b) fun k hk=>by omega);have acV:=(acS.frame (aQ.of Tk)).frame (hA (fun b=>w6.heap.size≤b∧b<wl.heap.size) fun k hk=>by omega);have Ij:=NS.frame (hA (fun b=>wr.drew.heap.size≤b) fun k hk=>by have:wr.drew.heap.size=wr.heap.size:=rfl;omega);clear p3 d0 d1 d2 d3 d4 d5 d6 d7 d8 d9 XJ XK XL XM XO dz hA hX9 NS Tk Cz hwr2 hw0 hw2 hw3 hw4 r0' r1' hz0 HC Wq hr0 G1r hpr acS HN;generalize (World.setCell (World.setCell (World.setCell (World.setCell (World.setCell (World.setCell (World.setCell (World.setCell _ _ _) _ _) _ _) _ _) _ _) _ _) _ _) _ _)=jR at acU oL G10 Yp acV Ij ⊢;obtain⟨⟨d0,d1,d2,d3,d4⟩,⟨d5,d6,d7,d8,d9⟩,⟨XJ,XK,XL,XM,XO⟩,dz⟩:=fH acU;obtain⟨⟨e0,e1,e2,e3,e4⟩,⟨e5,e6,e7,e8,e9⟩,⟨e10,e11,e12,e13,e14⟩,ez⟩:=fH G10;go_wp2;refine bodyPost_ret (v:=.agg #[.bool pb,.string ⟨tt.toArray⟩,.slice ap jS.length cp,.int .i64 a.base,.slice ao a.clause.length cc,.int .i64 x.op,.string ⟨x.name.toArray⟩,.string ⟨x.module.toArray⟩,.bool (decide (x.num<0)),.slice am wn cm,.bool x.yes,.slice ae x.kids.length ce,.int .i64 x.at_,.int .i64 tp,.int .i64 a.bare]) (by simp[results,Tryz.results68,go_sem,e0,e1,e2,e3,e4,e5,e6,e7,e8,e9,e10,e11,e12,e13,e14]) rfl ⟨ap,cp,ao,cc,am,wn,cm,ae,ce,rfl,⟨?_,?_,?_⟩,?_⟩
       ·exact(Yp.frame (zx _ _ _ _ _ _ _ _ _ _ _ _ _ _ _ _ _ _ fun k hk=>by omega)).imp fun b hb _=>by omega
       ·exact(acV.frame (zx _ _ _ _ _ _ _ _ _ _ _ _ _ _ _ _ _ _ fun k hk=>by omega)).imp fun b hb _=>by omega
       ·exact(Ij.frame (zx _ _ _ _ _ _ _ _ _ _ _ _ _ _ _ _ _ _ fun k hk=>by have:wr.drew.heap.size=wr.heap.size:=rfl;omega)).imp fun b hb _=>by have:wr.drew.heap.size=wr.heap.size:=rfl;omega
       ·exact tX oL (by omega) _ _ _ _ _ _ _ _ _ _ _ _ _ _ _
theorem RX {S:List UInt8}{toks:List Tok}(h:Laid S 0 toks)(v:Nat):bZ toks v+(aI toks v).length≤S.length:=by
 have hs:=h.some
 have hi:min v (toks.length - 1)<toks.length:=by omega
 have hp:=h.place _ hi;have h1:=h.inside (min v (toks.length - 1)+1) (by omega);rw[jw toks _ hi,lH] at h1
 have e:bL toks v=toks[min v (toks.length - 1)]:=by
  rw[bL,List.getD_eq_getElem?_getD,List.getElem?_eq_getElem hi,Option.getD_some]
 unfold bZ aI;rw[e,hp];omega
theorem abe {S:List UInt8}{toks:List Tok}{nodes:List Nd}{p:kG}(F:oD S toks nodes p)(B:Nat)(tv nv:Value):RdE B tv nv toks nodes:=by
 have hL:=jy F.V6;have hs:=F.small;refine⟨fun v=>Nat.le_trans (RX hL v) (by omega),F.good.kids,fun cl e u ho hl k W hr hT hW=>?_⟩;refine dF ⟨B,tv,nv,toks,nodes,cl⟩ ⟨F.good.Vn,fun u hu hk W=>?_⟩ (SizeOf.sizeOf e+1) e u (by omega) ho hl k W hr ⟨hT,hW⟩;have h:=sV F.V6 _ (sW hL.some u) hk;obtain⟨X,hX,eX⟩:=je (aI toks u);simp only;rw[eX,← hX]
 have h':qZ X.data.toList:=by rw[hX];exact h
 refine MR X W ?_ ?_ h'.1 (fun q=>by rw[← aK];exact h'.2.2.2 q)
 ·rw[← aK];exact List.length_pos_iff.2 h'.2.1
 ·rw[← aK];exact h'.2.2.1
theorem RY {S:List UInt8}{toks:List Tok}{nodes:List Nd}{p:kG}(F:oD S toks nodes p):∃ (r:Nat) (ks:List Int),nodes.length=r+1∧nodes[r]?=some ⟨(1:Nat),-1,ks⟩∧dV nodes ks 0 p.kids:=by
 have hr:=lM.em (pre:=[]) p.pt 0 0 rfl
 have hnd:nodes.length=p.pt.nd:=by rw[F.Dl,PT.sj]
 have hp:=p.pt.gq;rw[List.nil_append,Nat.zero_add,← F.Dl,← hnd] at hr
 obtain⟨r,hr1⟩:∃ r,nodes.length=r+1:=⟨nodes.length - 1,by omega⟩
 rw[hr1,show (((r+1:Nat):Int) - 1)=(r:Int) by omega,kG.pt] at hr;obtain⟨ks,h1,h2⟩:=dM hr;exact⟨r,ks,hr1,h1,h2⟩
def abf (p:PP)(w:World)(e:Ending)(w':World):Prop :=
 ∃ ai ci ad cd,e=.returned (.tuple #[.agg #[.slice ai p.imports.length ci,.slice ad p.defs.length cd],.int .i64 0])∧(ai=none→ci=0)∧Ka (fun b=>w.heap.size≤b) w' (.slice ai p.imports.length ci) (.slice ad p.defs.length cd) p∧Below w.heap.size w w'
def Wt (p:PP)(w:World)(e:Ending)(w':World):Prop :=
 ∃ ai ci ad cd,e=.returned (.tuple #[.agg #[.slice ai p.imports.length ci,.slice ad p.defs.length cd],.int .i64 0])∧(ai=none→ci=0)∧Ka (fun b=>w.heap.size≤b) w' (.slice ai p.imports.length ci) (.slice ad p.defs.length cd) p∧Below w.heap.size w w'∧fV DA w.heap.size 48 w' (.slice ad p.defs.length cd) p.defs
theorem Wt.post {p:PP}{w:World}{e:Ending}{w':World}(h:Wt p w e w'):abf p w e w':=by
 obtain⟨ai,ci,ad,cd,h1,h2,h3,h4,_⟩:=h;exact⟨ai,ci,ad,cd,h1,h2,h3,h4⟩
theorem fV.base {α β:Type}{K:RK α β}{C D e:Nat}{w:World}{v:Value}{zs:List α}(h:fV K C e w v zs)(hD:D≤C):fV K D e w v zs:=by
 obtain⟨l,h1,h2,h3⟩:=h;refine⟨l,h1,⟨h2.1,?_⟩,fun p hp=>K.imp (h3 p hp) fun b hb _=>⟨by omega,hb.2⟩⟩
 rcases h2.2 with h|⟨g,cap,cur,q1,q2,q3⟩
 ·exact .inl h
 ·exact .inr ⟨g,cap,cur,q1,by omega,q3⟩
def abg (IK:RK (List UInt8 × Nat) Unit)(DK:RK DD DV)(p:PP)(wl:World)(pb e1 e2 j:Nat)(W:World)(iv dv:Value):Prop :=
 (j≤p.imports.length∧fV IK wl.heap.size e1 W iv (p.imports.take j)∧dv=.slice none 0 0) ∨
 (p.imports.length≤j∧(∀ n c,iv=.slice none n c→c=0)∧∃ w2:World,wl.heap.size≤w2.heap.size∧aQ (fun b=>b<wl.heap.size∧b≠pb) wl w2∧RowK IK (fun b=>wl.heap.size≤b) w2 iv p.imports∧aQ (fun b=>b<w2.heap.size∧b≠pb) w2 W∧fV DK w2.heap.size e2 W dv (p.defs.take (j - p.imports.length)))
theorem fV.aeb {α β:Type}{K:RK α β}{C e:Nat}{w:World}{v:Value}{zs:List α}(h:fV K C e w v zs):∀ n c,v=.slice none n c→c=0:=by
 obtain⟨l,_,h2,_⟩:=h;intro n c hv
 rcases h2.2 with ⟨h3,_⟩|⟨g,cap,cur,h3,_⟩
 ·rw[hv] at h3;injection h3
 ·rw[hv] at h3;injection h3 with h4;cases h4
theorem abg.two {IK:RK (List UInt8 × Nat) Unit}{DK:RK DD DV}{p:PP}{wl:World}{pb e1 e2 j:Nat}{W:World}{iv dv:Value}(h:abg IK DK p wl pb e1 e2 j W iv dv)(hj:p.imports.length≤j)(ha:aQ (fun b=>b<wl.heap.size∧b≠pb) wl W):(∀ n c,iv=.slice none n c→c=0)∧∃ w2:World,wl.heap.size≤w2.heap.size∧aQ (fun b=>b<wl.heap.size∧b≠pb) wl w2∧RowK IK (fun b=>wl.heap.size≤b) w2 iv p.imports∧aQ (fun b=>b<w2.heap.size∧b≠pb) w2 W∧fV DK w2.heap.size e2 W dv (p.defs.take (j - p.imports.length)):=by
 rcases h with ⟨h1,h2,rfl⟩|⟨_,h2,h3⟩
 ·obtain rfl:j=p.imports.length:=by omega
  rw[List.take_length] at h2;refine⟨h2.aeb,W,ha.1,ha,h2.row,aQ.refl _ _,?_⟩;rw[Nat.sub_self,List.take_zero];exact fV.nil _ _ _ _
 ·exact⟨h2,h3⟩
def FF.z (f:FF):ZF:=⟨f.name,f.base,f.clause.map PE.z,f.at_,f.bare⟩
def DD.z (d:DD):ZD:=⟨d.pub,d.params.map FF.z,d.res.z,d.body.z⟩
def PP.z (p:PP):ZP:=⟨p.imports.map fun m=>(m.1,(m.2:Int)),p.defs.map DD.z⟩
section
variable {α β γ:Type}
theorem Dv {K:RK α β}{L:RK γ β}{g:α→γ}(hc:∀ a b,L.cells (g a) b=K.cells a b):∀ l:List (α × β),L.flat (l.map fun p=>(g p.1,p.2))=K.flat l
 | []=>rfl
 | p :: l=>by
  have:=Dv hc l;unfold RK.flat at this ⊢;rw[List.map_cons,List.flatMap_cons,List.flatMap_cons,this,hc]
theorem Ir (g:α→γ):∀ l:List (α × β),(l.map fun p=>(g p.1,p.2)).map Prod.fst=(l.map Prod.fst).map g
 | []=>rfl
 | p :: l=>by rw[List.map_cons,List.map_cons,Ir g l];rfl
theorem RowK.map {K:RK α β}{L:RK γ β}{g:α→γ}{P:Nat→Prop}{w:World}{v:Value}{zs:List α}(hs:L.sz=K.sz)(hc:∀ a b,L.cells (g a) b=K.cells a b)(hi:∀ a b,K.inn P w a b→L.inn P w (g a) b)(h:RowK K P w v zs):RowK L P w v (zs.map g):=by
 obtain⟨l,rfl,h2,h3⟩:=h;refine⟨l.map fun p=>(g p.1,p.2),Ir g l,?_,fun p hp=>?_⟩
 ·rw[Dv hc,hs,List.length_map];exact h2
 ·obtain⟨q,hq,rfl⟩:=List.mem_map.1 hp
  exact hi _ _ (h3 q hq)
theorem fV.map {K:RK α β}{L:RK γ β}{g:α→γ}{C e:Nat}{w:World}{v:Value}{zs:List α}(hs:L.sz=K.sz)(hc:∀ a b,L.cells (g a) b=K.cells a b)(hi:∀ P a b,K.inn P w a b→L.inn P w (g a) b)(h:fV K C e w v zs):fV L C e w v (zs.map g):=by
 obtain⟨l,rfl,h2,h3⟩:=h;refine⟨l.map fun p=>(g p.1,p.2),Ir g l,?_,fun p hp=>?_⟩
 ·rw[Dv hc,hs,List.length_map];exact h2
 ·obtain⟨q,hq,rfl⟩:=List.mem_map.1 hp
  exact hi _ _ _ (h3 q hq)
end
theorem PD {P:Nat→Prop}{w:World}{v:Value}{es:List PE}(h:RowK (EK XA) P w v es):RowK (ZK YA) P w v (es.map PE.z) :=
 RowK.map (K:=EK XA) (L:=ZK YA) (g:=PE.z) rfl (fun a b=>Ke a b.1 b.2) (fun _ _ h=>oI.ofE h) h
theorem Y7 {P:Nat→Prop}{w:World}{v:Value}{es:List FF}(h:RowK (FK XA) P w v es):RowK ZFK P w v (es.map FF.z) :=
 RowK.map (K:=FK XA) (L:=ZFK) (g:=FF.z) rfl (fun _ _=>rfl) (fun _ _ h=>PD h) h
theorem Y8 {P:Nat→Prop}{w:World}{d:DD}{x:DV}(h:DA.inn P w d x):ZDK.inn P w d.z x:=⟨Y7 h.1,PD h.2.1,oI.ofE h.2.2⟩
theorem RZ (d:DD)(x:DV):ZDK.cells d.z x=DA.cells d x:=by
 obtain⟨pub,ps,res,body⟩:=d;cases body
 rfl
theorem Y9 {C e:Nat}{w:World}{v:Value}{es:List DD}(h:fV DA C e w v es):fV ZDK C e w v (es.map DD.z):=fV.map (K:=DA) (L:=ZDK) (g:=DD.z) rfl RZ (fun _ _ _ h=>Y8 h) h
mutual
theorem PE.Oc:∀ e:PE,e.z.size=e.iR
 | .mk _ _ _ _ _ _ kids _=>by rw[PE.z,PZ.size,PE.iR,KW kids];omega
theorem KW:∀ l:List PE,rM (EW l)=eZ l
 | []=>rfl
 | e :: l=>by rw[EW,rM,eZ,PE.Oc e,KW l]
end
theorem Dw:∀ l:List PE,l.length≤eZ l
 | []=>Nat.le_refl _
 | e :: l=>by
  have:=Dw l
  have:1≤e.iR:=by cases e;rw[PE.iR];omega
  rw[eZ,dX];omega
mutual
theorem PE.Wu {M:Nat}(hM:M≤65536):∀ e:PE,e.fits M→e.iR≤65536→e.z.fit
 | .mk op nm md num txt yes kids a,h,hs=>by
  rw[PE.fits] at h;rw[PE.iR] at hs;have hl:=Dw kids;rw[PE.z,PZ.fit];exact⟨by omega,by omega,h.2.2.2.2.2.1,by rw[wV,List.length_map];omega,PG hM kids h.2.2.2.2.2.2 (by omega)⟩
theorem PG {M:Nat}(hM:M≤65536):∀ l:List PE,iA M l→eZ l≤65536→Hy (EW l)
 | [],_,_=>by rw[EW,Hy];trivial
 | e :: l,h,hs=>by
  rw[iA] at h;rw[eZ] at hs;rw[EW,Hy];exact⟨PE.Wu hM e h.1 (by omega),PG hM l h.2 (by omega)⟩
end
theorem fV.setHead {α β:Type}{K:RK α β}{C e g n cap j:Nat}{w:World}{zs:List α}{a a':α}{u:Value}(h:fV K C e w (.slice (some ⟨g,0,none⟩) n cap) (a :: zs))(hj:j<K.sz)(hc:∀ x,K.cells a' x=(K.cells a x).set j u)(hi:∀ P W x,K.inn P W a x→K.inn P W a' x) :
  fV K C e (w.setCell ⟨g,j,none⟩ u) (.slice (some ⟨g,0,none⟩) n cap) (a' :: zs):=by
 obtain⟨l,h1,h2,h3⟩:=h
 cases l with
 | nil=>cases h1
 | cons p l =>
  obtain⟨a0,x⟩:=p;rw[List.map_cons,List.cons.injEq] at h1;obtain⟨h1a,h1b⟩:=h1;simp only at h1a;subst h1a
  have hA:aQ (fun b=>C≤b∧some b≠(Value.slice (some ⟨g,0,none⟩) n cap).ownBlock) w (w.setCell ⟨g,j,none⟩ u):=aQ.set u fun b hb q=>hb.2 (by rw[q];rfl)
  refine⟨(a',x) :: l,by rw[List.map_cons,h1b],?_,fun p hp=>?_⟩
  ·obtain⟨hlen,hr⟩:=h2
   have hf:K.flat ((a',x) :: l)=(K.flat ((a0,x) :: l)).set j u:=by
    show K.cells a' x++K.flat l=(K.cells a0 x++K.flat l).set j u;rw[hc,List.set_append_left _ _ (by rw[K.len];exact hj)]
   refine⟨by rw[hf,List.length_set,hlen];rfl,?_⟩
   rcases hr with ⟨hv,_⟩|⟨g',cap',cur,hv,hg,hh,hn,hm,hs,ht⟩
   ·cases hv
   ·simp only[Value.slice.injEq,Option.some.injEq,Addr.mk.injEq,and_true] at hv
    obtain⟨rfl,rfl,rfl⟩:=hv;refine .inr ⟨g,cap,cur.setIfInBounds j u,rfl,hg,heap_setCell_same w g j _ _ u hh,hn,hm,by rw[Array.size_setIfInBounds];exact hs,?_⟩;rw[Array.toList_setIfInBounds,hf,← ht,List.take_set]
    rfl
  ·rcases List.mem_cons.1 hp with rfl|hp
   ·exact hi _ _ _ (K.frame (h3 _ List.mem_cons_self) hA)
   ·exact K.frame (h3 p (List.mem_cons_of_mem _ hp)) hA
theorem fV.free {α β:Type}{K:RK α β}{C e g n cap:Nat}{w:World}{zs:List α}(h:fV K C e w (.slice (some ⟨g,0,none⟩) n cap) zs)(j:Nat):w.frozen? ⟨g,j,none⟩=false:=by
 obtain⟨l,h1,h2,h3⟩:=h
 rcases h2.2 with ⟨hv,_⟩|⟨g',cap',cur,hv,hg,hh,_⟩
 ·cases hv
 ·simp only[Value.slice.injEq,Option.some.injEq,Addr.mk.injEq,and_true] at hv
  obtain⟨rfl,-⟩:=hv;simp[World.frozen?,hh]
theorem fV.head {α β:Type}{K:RK α β}{C e:Nat}{w:World}{v:Value}{zs:List α}(h:fV K C e w v zs)(h0:0<zs.length):∃ g cap,v=.slice (some ⟨g,0,none⟩) zs.length cap∧C≤g∧g<w.heap.size:=by
 obtain⟨l,h1,h2,h3⟩:=h
 rcases h2.2 with ⟨_,hv⟩|⟨g',cap',cur,hv,hg,hh,_⟩
 ·omega
 ·exact⟨g',cap',hv,hg,(bG hh).1⟩
def ZD.PI (d:ZD)(b:Int):ZD:={ d with res:={ d.res with base:=b } }
theorem fV.PI {C e g n cap:Nat}{w:World}{d:ZD}{zs:List ZD}(h:fV ZDK C e w (.slice (some ⟨g,0,none⟩) n cap) (d :: zs))(b:Int):fV ZDK C e (w.setCell ⟨g,3,none⟩ (.int .i64 b)) (.slice (some ⟨g,0,none⟩) n cap) (d.PI b :: zs) :=
 h.setHead (by decide) (fun _=>rfl) fun _ _ _ h=>h
def Gc:RK ZF Value where
 sz:=3
 cells f cv:=[bY f.name,.int .i64 f.base,cv]
 inn P w f cv:=RowK (ZK YA) P w cv f.clause
 len _ _:=rfl
 frame h ha:=h.frame ha
 imp h hq:=h.imp hq
def tY (P:Nat→Prop)(w:World)(pv cv:Value)(ps:List ZF)(cl:List PZ):Prop:=RowK Gc P w pv ps∧RowK (ZK YA) P w cv cl
theorem tY.frame {P:Nat→Prop}{w w':World}{pv cv:Value}{ps:List ZF}{cl:List PZ}(h:tY P w pv cv ps cl)(ha:aQ P w w'):tY P w' pv cv ps cl:=⟨h.1.frame ha,h.2.frame ha⟩
theorem tY.imp {P Q:Nat→Prop}{w:World}{pv cv:Value}{ps:List ZF}{cl:List PZ}(h:tY P w pv cv ps cl)(hq:∀ b,P b→b<w.heap.size→Q b):tY Q w pv cv ps cl:=⟨h.1.imp hq,h.2.imp hq⟩
end Go.Proofs.YtknicmmigbhpcaaGreatDoor
