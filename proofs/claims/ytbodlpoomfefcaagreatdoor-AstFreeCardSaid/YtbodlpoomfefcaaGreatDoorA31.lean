/- Walks and plain laws: RDefW, OfW0. -/
import Derived.Test.YtbodlpoomfefcaaGreatDoorA30
import Derived.IntWalk
set_option maxHeartbeats 16000000
set_option maxRecDepth 100000
set_option linter.unusedVariables false
set_option linter.unusedSimpArgs false
namespace Go.Proofs.YtbodlpoomfefcaaGreatDoor
open Go.RowKit Go
theorem Tryz.infoParam:(Tryz.prog.info? 75).map (fun i=>(i.zero,i.size,i.bytes))=some (some (.agg #[.string ⟨#[]⟩,.int .i64 0,.slice none 0 0,.int .i64 0,.int .i64 0]),5,64):=by kernel_rfl
theorem Tryz.entersParam:∀ args w,(callFunc 76 args).run Tryz.prog w=.ok (.enter 76 args) w:=Go.Proofs.enters_of Tryz.func76 (by kernel_rfl) rfl
def RdPost (d:DD)(w:World)(e:Ending)(w':World):Prop :=
 ∃ ap cp ac cc am wn cm ae ce,e=.returned (.agg #[.bool d.pub,.string ⟨d.res.name.toArray⟩,.slice ap d.params.length cp,.int .i64 d.res.base,.slice ac d.res.clause.length cc,.int .i64 d.body.op,.string ⟨d.body.name.toArray⟩,.string ⟨d.body.module.toArray⟩,.bool (decide (d.body.num<0)),.slice am wn cm,.bool d.body.yes,.slice ae d.body.kids.length ce,.int .i64 d.body.at_,.int .i64 d.res.at_,.int .i64 d.res.bare]) ∧
  DA.inn (fun b=>w.heap.size≤b) w' d ⟨.slice ap d.params.length cp,.slice ac d.res.clause.length cc,.slice am wn cm,.slice ae d.body.kids.length ce⟩∧Below w.heap.size w w'
def dCells (pb:Bool)(nm:List UInt8)(pv:Value)(base:Nat)(cv:Value)(at_:Nat)(bare:Int):Array Value :=
 #[.bool pb,.string ⟨nm.toArray⟩,pv,.int .i64 base,cv,.int .i64 0,.string ⟨#[]⟩,.string ⟨#[]⟩,.bool false,.slice none 0 0,.bool false,.slice none 0 0,.int .i64 0,.int .i64 at_,.int .i64 bare]
theorem rdef_any {B:Nat}{tv nv:Value}{toks:List Tok}{nodes:List Nd}(E:RdE B tv nv toks nodes)(d:DfS)(u:Nat)(ho:d.ok toks u)(hl:u+d.pt.lv≤toks.length)(i:Nat)(w:World)(hr:Rep nodes i u d.pt)(h:TreeAt B w (.agg #[tv,nv]) toks nodes)(hB:B≤w.heap.size) :
  Calls Tryz.prog 41 #[.agg #[tv,nv],.int .i64 i] w (RdPost (d.dd toks u) w):=by
 obtain ⟨ip,hip1,hip2,hip3,hip4⟩:=info_parts Tryz.infoParam
 have ent:=Tryz.entersParam
 rw [d.its_pt] at hr hl
 obtain ⟨ks,hn,hk⟩:=rep_node hr
 have hlv:u+lvL (d.its.map It.pt)≤toks.length:=by rw [PT.lv] at hl;exact hl
 have K:=def_kids ho hlv hk
 obtain ⟨k0,hq0,hl0,hu0⟩:=K.first
 obtain ⟨k1,hq1,hl1,hu1⟩:=K.name
 obtain ⟨k2,hq2,hr2,hu2⟩:=K.body
 have hmany:=K.many
 have hpub:=K.pub
 have hks:=E.few _ (List.mem_of_getElem? hn)
 obtain ⟨a,ha1,ha2,ha3,HTY⟩:∃ a:TyA,(d.dd toks u).res.base=a.base∧(d.dd toks u).res.clause=a.clause∧(d.dd toks u).res.bare=a.bare∧Hid (∀ W,TreeAt B W (.agg #[tv,nv]) toks nodes→B≤W.heap.size→Calls Tryz.prog 75 #[.agg #[tv,nv],.int .i64 i] W (RtPost a W)):=⟨⟨_,_,_⟩,rfl,rfl,rfl,Lib.hid (fun W hT hW=>rdtyped E d u ho ks hlv i hn hk W hT hW)⟩
 have hdd:d.dd toks u=⟨d.pub,parA toks u d.its,⟨(peekF toks (d.at1 u+1)).text,a.base,a.clause,(peekF toks (d.at1 u+1)).place,a.bare⟩,d.body.pe toks (d.at3 u)⟩:=by
  rw [← ha1,← ha2,← ha3,d.pars_par];rfl
 rw [hdd]
 clear hdd ha1 ha2 ha3
 obtain ⟨pars,hpars⟩:∃ pars,pars=parA toks u d.its:=⟨_,rfl⟩
 rw [← hpars]
 have HPS:=Lib.hid hpars
 clear hpars
 have HBD:Hid (∀ W,TreeAt B W (.agg #[tv,nv]) toks nodes→B≤W.heap.size→Calls Tryz.prog 42 #[.agg #[tv,nv],.int .i64 k2] W (EPostS (d.body.pe toks (d.at3 u)) W)):=Lib.hid (fun W hT hW=>(E.exprs false d.body (d.at3 u) ho.2.2.2.2.2.2 hu2 k2 W hr2 hT hW).mono fun _ _ h=>h.s)
 have HPAR:Hid (∀ (t:TyS) (v:Nat),(It.par t,v)∈posL u d.its→∀ (m:Nat) (W:World),Rep nodes m v t.par→TreeAt B W (.agg #[tv,nv]) toks nodes→B≤W.heap.size→Calls Tryz.prog 76 #[.agg #[tv,nv],.int .i64 m] W (RpPost (t.parFF toks v) W)):=Lib.hid (fun t v hm m W hrm hT hW=>by
  have hend:=posL_end _ _ _ hm
  exact rpar_reads E t v (par_in ho hm) (by simp only [It.pt] at hend;omega) m W hrm hT hW)
 have HTK:Hid (∀ W,TreeAt B W (.agg #[tv,nv]) toks nodes→B≤W.heap.size→Calls Tryz.prog 40 #[.agg #[tv,nv],.int .i64 k1] W fun e w'=>e=.returned (tokVal (peekF toks (d.at1 u+1)))∧Below W.heap.size W w'):=Lib.hid (fun W hT hW=>by
  have:=rtoken_any B tv nv toks nodes k1 (d.at1 u+1) W hT hW hl1 hu1
  have e:=tok_peek hu1
  rw [List.getElem?_eq_getElem hu1] at e
  rw [Option.some.inj e] at this
  exact this)
 have HTX:Hid (∀ W,TreeAt B W (.agg #[tv,nv]) toks nodes→B≤W.heap.size→Calls Tryz.prog 74 #[.agg #[tv,nv],.int .i64 k0] W fun e w'=>e=.returned (.string (if d.pub=true then ⟨#[112,117,98]⟩ else ⟨#[102,117,110]⟩))∧Below W.heap.size W w'):=Lib.hid (fun W hT hW=>by
  have:=rtext_any B tv nv toks nodes k0 u W hT hW hl0 hu0
  have e:=tok_peek hu0
  rw [List.getElem?_eq_getElem hu0] at e
  rw [Option.some.inj e] at this
  have e2:(peekF toks u).text=if d.pub=true then tPub else tFun:=by
   cases hd:d.pub with
   | true=>exact ho.1 hd
   | false =>
    have h1:=ho.2.1
    unfold DfS.at1 DfS.lead at h1
    rw [hd] at h1
    simp only [Bool.false_eq_true,if_false,lvL,Nat.add_zero] at h1
    exact h1
  rw [e2] at this
  unfold strV at this
  cases hd:d.pub <;> (rw [hd] at this;exact this))
 obtain ⟨hlk,hrp⟩:=posL_rep _ _ _ hk
 have HRP:=Lib.hid hrp
 have HLK:Hid (ks.length=(posL u d.its).length):=Lib.hid (by rw [posL_len];exact hlk)
 have HRD:=Lib.hid (parA_round toks d.its u)
 have hpl:(parA toks u d.its).length≤1000000:=by
  have:=parA_len toks d.its u
  simp only at hks
  omega
 have HIT:=Lib.hid (show d.its.length=ks.length from hlk.symm)
 generalize d.body.pe toks (d.at3 u)=x at HBD ⊢
 generalize hpb:d.pub=pb at hq1 HTX ⊢
 generalize hqq:(if pb=true then 2 else 1)=q at hq1
 have HQ:=Lib.hid hqq
 unfold tokVal strV at HTK
 generalize peekF toks (d.at1 u+1)=t at HTK ⊢
 obtain ⟨tk,tl,tt,tp⟩:=t
 simp only at HTK ⊢
 have HT:=Lib.hid h
 obtain ⟨hi,hni⟩:=List.getElem?_eq_some_iff.1 hn
 obtain ⟨a1,c1,_,_,e⟩:=h.slices
 obtain ⟨b,off,cap,kv,rfl,hb,y0,y1,y2,hkv⟩:=h.node hi
 obtain ⟨rfl,-⟩:tv=.slice a1 toks.length c1∧_:=by simpa using e
 rw [hni] at hkv
 simp only at hkv
 obtain ⟨ak,ck,rfl,_,hkf⟩:=hkv.form
 obtain ⟨bk,ok,rfl,hbk,hkc⟩:=hkf (by omega)
 obtain ⟨hq0',hq0''⟩:=List.getElem?_eq_some_iff.1 hq0
 obtain ⟨hq1',hq1''⟩:=List.getElem?_eq_some_iff.1 hq1
 obtain ⟨hq2',hq2''⟩:=List.getElem?_eq_some_iff.1 hq2
 have z0:=hkc 0 hq0'
 have z1:=hkc q hq1'
 have z2:=hkc (ks.length - 2) hq2'
 rw [hq0'',Nat.add_zero] at z0
 rw [hq1''] at z1
 rw [hq2''] at z2
 have HKC:=Lib.hid hkc
 have hal2:=((Below.refl w.heap.size w).alloc (Nat.le_refl _) (.cells #[.slice a1 toks.length c1,.slice (some ⟨b,off,none⟩) nodes.length cap] 86)).alloc (by simp) (.cells #[.bool false,.string ⟨#[]⟩,.slice none 0 0,.int .i64 0,.slice none 0 0,.int .i64 0,.string ⟨#[]⟩,.string ⟨#[]⟩,.bool false,.slice none 0 0,.bool false,.slice none 0 0,.int .i64 0,.int .i64 0,.int .i64 0] 64)
 have g0:=(Lib.alloc_old _ (.cells #[.bool false,.string ⟨#[]⟩,.slice none 0 0,.int .i64 0,.slice none 0 0,.int .i64 0,.string ⟨#[]⟩,.string ⟨#[]⟩,.bool false,.slice none 0 0,.bool false,.slice none 0 0,.int .i64 0,.int .i64 0,.int .i64 0] 64) w.heap.size (by simp)).trans (heap_alloc_new w (.cells #[.slice a1 toks.length c1,.slice (some ⟨b,off,none⟩) nodes.length cap] 86))
 have g1:=heap_alloc_new (w.alloc (.cells #[.slice a1 toks.length c1,.slice (some ⟨b,off,none⟩) nodes.length cap] 86)) (.cells #[.bool false,.string ⟨#[]⟩,.slice none 0 0,.int .i64 0,.slice none 0 0,.int .i64 0,.string ⟨#[]⟩,.string ⟨#[]⟩,.bool false,.slice none 0 0,.bool false,.slice none 0 0,.int .i64 0,.int .i64 0,.int .i64 0] 64)
 rw [World.size_alloc] at g1
 have Y2:=cell_later hal2 y2
 have Z0:=cell_later hal2 z0
 have Z1:=cell_later hal2 z1
 have Z2:=cell_later hal2 z2
 have hiI:(i:Int)<(nodes.length:Int):=by omega
 have hq0I:(0:Int)<(ks.length:Int):=by omega
 have hq1I:(q:Int)<(ks.length:Int):=by omega
 clear h e y0 y1 y2 z0 z1 z2 hkv hkf hkc hn hni hlk hrp hk hr hlv hl ho hq0 hq1 hq2 hq0'' hq1'' hq2'' hl0 hl1 hr2 hu0 hu1 hu2 hpub K E hpb hqq
 go_enter Tryz.func41,Tryz.ntmps41
 obtain ⟨r0,r1⟩:=rd_cells g0
 go_upto_region 2 with (fail)
 generalize (w.alloc _).alloc _=w2 at g0 g1 hal2 Y2 Z0 Z1 Z2 r0 r1 ⊢
 have hz2:=hal2.size
 have hlt2:w.heap.size+1<w2.heap.size:=(Array.getElem?_eq_some_iff.1 g1).1
 have hne0:w.heap.size≠w2.heap.size:=by omega
 have hne1:bk≠w2.heap.size:=by omega
 have HX':=Lib.hid (fun W (hb:Below w2.heap.size w2 W)=>(HTX.out W (HT.out.below ((hal2.trans (hb.mono hz2)).mono hB)) (by have:=hb.size;omega)).mono (R':=fun e w'=>e=.returned (.string (if pb=true then ⟨#[112,117,98]⟩ else ⟨#[102,117,110]⟩))∧Below w2.heap.size w2 w'∧Below W.heap.size W w') fun e w' h=>⟨h.1,hb.trans (h.2.mono hb.size),h.2⟩)
 go_cut [6] (fun p wc=>∃ X:Nat,p=.pointer (some ⟨X,0,none⟩)∧wc.heap[X]?=some (.cells (dCells pb [] (.slice none 0 0) 0 (.slice none 0 0) 0 0) 64 (0,0))∧Below w2.heap.size w2 wc∧w2.heap.size≤X)
 case first =>
  cases pb with
  | true =>
   simp only [if_true] at HX'
   go_region_held3 (fun w'=>w'.cell? ⟨w.heap.size,0,none⟩=some (.slice a1 toks.length c1)∧w'.cell? ⟨w.heap.size,1,none⟩=some (.slice (some ⟨b,off,none⟩) nodes.length cap)∧w'.cell? ⟨bk,ok,none⟩=some (.int .i64 k0))
    (first|(with_reducible exact p3)|((try dsimp only);with_reducible exact And.intro ((set15_cell w3 w2.heap.size _ _ _ _ _ _ _ _ _ _ _ _ _ _ _ hne0).trans p3.1) (And.intro ((set15_cell w3 w2.heap.size _ _ _ _ _ _ _ _ _ _ _ _ _ _ _ hne0).trans p3.2.1) ((set15_cell w3 w2.heap.size _ _ _ _ _ _ _ _ _ _ _ _ _ _ _ hne1).trans p3.2.2)))|(go_keep;done))
    (first|(go_at_call 74;refine (HX'.out _ ?_).mono ?_;(first|exact (Below.refl _ _).drew|exact ((Below.refl _ _).alloc (Nat.le_refl _) _).drew);rintro e w3 ⟨rfl,hq3,hb3⟩;have p3:=And.intro (cell_later hq3 r0) (And.intro (cell_later hq3 r1) (cell_later hq3 Z0));try (have hTz:=(hb3.block w2.heap.size (by simp)).trans (heap_alloc_new w2 (.cells #[.bool false,.string ⟨#[]⟩,.slice none 0 0,.int .i64 0,.slice none 0 0,.int .i64 0,.string ⟨#[]⟩,.string ⟨#[]⟩,.bool false,.slice none 0 0,.bool false,.slice none 0 0,.int .i64 0,.int .i64 0,.int .i64 0] 64));obtain ⟨⟨e0,e1,e2,e3,e4⟩,⟨e5,e6,e7,e8,e9⟩,⟨e10,e11,e12,e13,e14⟩,ez⟩:=def_cells2 hTz)))
   ·clear r0 r1 Z0 p3
    go_wp2_with fail
    go_meet
    exact ⟨w3.heap.size,rfl,heap_alloc_new _ _,hq3.alloc hq3.size _,hq3.size⟩
   ·clear r0 r1 Z0 p3
    go_wp2_with fail
    go_meet
    exact ⟨w2.heap.size,rfl,set15_same hTz _ _ _ _ _ _ _ _ _ _ _ _ _ _ _,set15_below hq3 (Nat.le_refl _) _ _ _ _ _ _ _ _ _ _ _ _ _ _ _,Nat.le_refl _⟩
  | false =>
   simp only [Bool.false_eq_true,if_false] at HX'
   go_region_held3 (fun w'=>w'.cell? ⟨w.heap.size,0,none⟩=some (.slice a1 toks.length c1)∧w'.cell? ⟨w.heap.size,1,none⟩=some (.slice (some ⟨b,off,none⟩) nodes.length cap)∧w'.cell? ⟨bk,ok,none⟩=some (.int .i64 k0))
    (first|(with_reducible exact p3)|((try dsimp only);with_reducible exact And.intro ((set15_cell w3 w2.heap.size _ _ _ _ _ _ _ _ _ _ _ _ _ _ _ hne0).trans p3.1) (And.intro ((set15_cell w3 w2.heap.size _ _ _ _ _ _ _ _ _ _ _ _ _ _ _ hne0).trans p3.2.1) ((set15_cell w3 w2.heap.size _ _ _ _ _ _ _ _ _ _ _ _ _ _ _ hne1).trans p3.2.2)))|(go_keep;done))
    (first|(go_at_call 74;refine (HX'.out _ ?_).mono ?_;(first|exact (Below.refl _ _).drew|exact ((Below.refl _ _).alloc (Nat.le_refl _) _).drew);rintro e w3 ⟨rfl,hq3,hb3⟩;have p3:=And.intro (cell_later hq3 r0) (And.intro (cell_later hq3 r1) (cell_later hq3 Z0));try (have hTz:=(hb3.block w2.heap.size (by simp)).trans (heap_alloc_new w2 (.cells #[.bool false,.string ⟨#[]⟩,.slice none 0 0,.int .i64 0,.slice none 0 0,.int .i64 0,.string ⟨#[]⟩,.string ⟨#[]⟩,.bool false,.slice none 0 0,.bool false,.slice none 0 0,.int .i64 0,.int .i64 0,.int .i64 0] 64));obtain ⟨⟨e0,e1,e2,e3,e4⟩,⟨e5,e6,e7,e8,e9⟩,⟨e10,e11,e12,e13,e14⟩,ez⟩:=def_cells2 hTz)))
   ·clear r0 r1 Z0 p3
    go_wp2_with fail
    go_meet
    exact ⟨w3.heap.size,rfl,heap_alloc_new _ _,hq3.alloc hq3.size _,hq3.size⟩
   ·clear r0 r1 Z0 p3
    go_wp2_with fail
    go_meet
    exact ⟨w2.heap.size,rfl,set15_same hTz _ _ _ _ _ _ _ _ _ _ _ _ _ _ _,set15_below hq3 (Nat.le_refl _) _ _ _ _ _ _ _ _ _ _ _ _ _ _ _,Nat.le_refl _⟩
 case rest =>
  obtain ⟨X,rfl,hX,hbc,hXl⟩:=hcut
  obtain ⟨w4,rfl⟩:∃ w4:World,w4=wc:=⟨_,rfl⟩
  have hX4:=(Array.getElem?_eq_some_iff.1 hX).1
  have G0:=(hbc.block w.heap.size (by omega)).trans g0
  have G1:=(hbc.block (w.heap.size+1) hlt2).trans g1
  have hb4:Below w.heap.size w w4:=hal2.trans (hbc.mono hz2)
  have hz4:=hbc.size
  have Z1':=cell_later hbc Z1
  obtain ⟨⟨d0,d1,d2,d3,d4⟩,⟨d5,d6,d7,d8,d9⟩,⟨d10,d11,d12,d13,d14⟩,dz⟩:=def_cells2 hX
  clear Z0 Z1 r0 r1 HX'
  go_upto_if 26 with fail
  go_cut [7] (fun v wc=>v=.int .i64 q∧wc=w4)
  case first =>
   cases pb
   all_goals
    have hq:=HQ.out
    simp only [if_true,Bool.false_eq_true,if_false] at hq
    subst hq
    go_wp2
    go_meet
    exact ⟨rfl,rfl⟩
  case rest =>
   obtain ⟨rfl,rfl⟩:=hcut
   obtain ⟨w4,rfl⟩:∃ w4:World,w4=wc:=⟨_,rfl⟩
   obtain ⟨r0,r1⟩:=rd_cells G0
   have HK':=Lib.hid (fun W (hb:Below w4.heap.size w4 W)=>(HTK.out W (HT.out.below ((hb4.trans (hb.mono hb4.size)).mono hB)) (by have:=hb4.size;have:=hb.size;omega)).mono (R':=fun e w'=>e=.returned (.agg #[.int .i64 tk,.string ⟨tl.toArray⟩,.string ⟨tt.toArray⟩,.int .i64 tp])∧Below w4.heap.size w4 w'∧Below W.heap.size W w') fun e w' h=>⟨h.1,hb.trans (h.2.mono hb.size),h.2⟩)
   clear d0 d1 d2 d3 d4 d5 d6 d7 d8 d9 d10 d11 d12 d13 d14 dz
   go_upto_region 6 with fail
   go_cut [8] (fun p wc=>∃ Y:Nat,p=.pointer (some ⟨Y,0,none⟩)∧wc.heap[Y]?=some (.cells #[.int .i64 tk,.string ⟨tl.toArray⟩,.string ⟨tt.toArray⟩,.int .i64 tp] 80 (0,0))∧Below w4.heap.size w4 wc)
   case first =>
    go_region_held3 (fun w'=>w'.cell? ⟨w.heap.size,0,none⟩=some (.slice a1 toks.length c1)∧w'.cell? ⟨w.heap.size,1,none⟩=some (.slice (some ⟨b,off,none⟩) nodes.length cap)∧w'.cell? ⟨bk,ok+q,none⟩=some (.int .i64 k1))
     (first|go_keep|exact p3|exact ⟨(set4_cell w3 w4.heap.size _ _ _ _ (by omega)).trans p3.1,(set4_cell w3 w4.heap.size _ _ _ _ (by omega)).trans p3.2.1,(set4_cell w3 w4.heap.size _ _ _ _ (by omega)).trans p3.2.2⟩)
     (first|(go_at_call 40;refine (HK'.out _ ?_).mono ?_;(first|exact (Below.refl _ _).drew|exact ((Below.refl _ _).alloc (Nat.le_refl _) _).drew);rintro e w3 ⟨rfl,hq3,hb3⟩;have p3:=And.intro (cell_later hq3 r0) (And.intro (cell_later hq3 r1) (cell_later hq3 Z1'));try (have hTz:=(hb3.block w4.heap.size (by simp)).trans (heap_alloc_new w4 (.cells #[.int .i64 0,.string ⟨#[]⟩,.string ⟨#[]⟩,.int .i64 0] 80));obtain ⟨tz0,tz1,tz2,tz3,tz4⟩:=tok0_cells hTz)))
    ·clear r0 r1 Z1' p3
     go_wp2_with fail
     go_meet
     exact ⟨w3.heap.size,rfl,heap_alloc_new _ _,hq3.alloc hq3.size _⟩
    ·obtain ⟨S3,So,_⟩:=store4 hTz (.int .i64 tk) (.string ⟨tl.toArray⟩) (.string ⟨tt.toArray⟩) (.int .i64 tp)
     clear r0 r1 Z1' p3 tz0 tz1 tz2 tz3 tz4
     go_wp2_with fail
     go_meet
     exact ⟨w4.heap.size,rfl,S3,(((hq3.setCell (Nat.le_refl _) _).setCell (Nat.le_refl _) _).setCell (Nat.le_refl _) _).setCell (Nat.le_refl _) _⟩
   case rest =>
    obtain ⟨Y,rfl,hY,hbc5⟩:=hcut
    obtain ⟨w5,rfl⟩:∃ w5:World,w5=wc:=⟨_,rfl⟩
    have hX5:=(hbc5.block X hX4).trans hX
    have hb5:Below w2.heap.size w2 w5:=hbc.trans (hbc5.mono hz4)
    have hXw5:X<w5.heap.size:=Nat.lt_of_lt_of_le hX4 hbc5.size
    obtain ⟨f2,f3⟩:=tokD_cells hY
    obtain ⟨⟨d0,d1,d2,d3,d4⟩,⟨d5,d6,d7,d8,d9⟩,⟨d10,d11,d12,d13,d14⟩,dz⟩:=def_cells2 hX5
    clear hX hbc hbc5 Z1' r0 r1 HK' hb4 G0 G1 hY
    go_upto_region 7 with fail
    go_cut [] (fun wc=>wc.heap[X]?=some (.cells (dCells pb tt (.slice none 0 0) 0 (.slice none 0 0) tp 0) 64 (0,0))∧Below w2.heap.size w2 wc)
    case first =>
     go_region
     all_goals
      go_wp2_with fail
      go_meet
      have T1:=heap_setCell_same w5 X 1 _ _ (.string ⟨tt.toArray⟩) hX5
      have T2:=heap_setCell_same _ X 13 _ _ (.int .i64 tp) T1
      exact ⟨T2,((hb5.setCell hXl _).setCell hXl _).drew⟩
    case rest =>
     obtain ⟨hX6,hb6⟩:=hcut
     obtain ⟨w6,rfl⟩:∃ w6:World,w6=wc:=⟨_,rfl⟩
     have hz6:=hb6.size
     have hXw6:=(Array.getElem?_eq_some_iff.1 hX6).1
     have hbw6:Below w.heap.size w w6:=hal2.trans (hb6.mono hz2)
     have G0:=(hb6.block w.heap.size (by omega)).trans g0
     obtain ⟨r0,r1⟩:=rd_cells G0
     have HAW:=Lib.hid (HTY.out w6 (HT.out.below (hbw6.mono hB)) (Nat.le_trans hB hbw6.size))
     clear d0 d1 d2 d3 d4 d5 d6 d7 d8 d9 d10 d11 d12 d13 d14 dz f2 f3 hX5 hb5 HTY
     go_wp2_with (go_at_call 75;refine HAW.out.mono ?_)
     rintro e w7 ⟨ao,cc,rfl,hrow,hb7⟩
     have hX7:=(hb7.block X hXw6).trans hX6
     obtain ⟨⟨d0,d1,d2,d3,d4⟩,⟨d5,d6,d7,d8,d9⟩,⟨d10,d11,d12,d13,d14⟩,dz⟩:=def_cells2 hX7
     clear r0 r1 HAW
     go_upto_region 9 with fail
     have T1:=heap_setCell_same w7 X 3 _ _ (.int .i64 a.base) hX7
     have T2:=heap_setCell_same _ X 4 _ _ (.slice ao a.clause.length cc) T1
     have T3:=heap_setCell_same _ X 14 _ _ (.int .i64 a.bare) T2
     have hX8:(((w7.setCell ⟨X,3,none⟩ (.int .i64 a.base)).setCell ⟨X,4,none⟩ (.slice ao a.clause.length cc)).setCell ⟨X,14,none⟩ (.int .i64 a.bare)).heap[X]?=some (.cells (dCells pb tt (.slice none 0 0) a.base (.slice ao a.clause.length cc) tp a.bare) 64 (0,0)):=T3
     have hb7':Below w2.heap.size w2 w7:=hb6.trans (hb7.mono hz6)
     have hb8:Below w2.heap.size w2 (((w7.setCell ⟨X,3,none⟩ (.int .i64 a.base)).setCell ⟨X,4,none⟩ (.slice ao a.clause.length cc)).setCell ⟨X,14,none⟩ (.int .i64 a.bare)):=((hb7'.setCell hXl _).setCell hXl _).setCell hXl _
     have hs:∀ (W:World) (j:Nat) (v:Value),Alk (fun b=>w6.heap.size≤b) W (W.setCell ⟨X,j,none⟩ v):=fun W j v=>Alk.set v fun b hb=>by show b≠X;omega
     have hrow8:=hrow.frame (((hs w7 3 (.int .i64 a.base)).trans (hs _ 4 (.slice ao a.clause.length cc))).trans (hs _ 14 (.int .i64 a.bare)))
     have hz8:w6.heap.size≤(((w7.setCell ⟨X,3,none⟩ (.int .i64 a.base)).setCell ⟨X,4,none⟩ (.slice ao a.clause.length cc)).setCell ⟨X,14,none⟩ (.int .i64 a.bare)).heap.size:=by simpa using hb7.size
     clear T1 T2 T3 hX7 hX6 hb6 hb7 hb7' hs hrow d0 d1 d2 d3 d4 d5 d6 d7 d8 d9 d10 d11 d12 d13 d14 dz G0 hbw6
     generalize ((w7.setCell _ _).setCell _ _).setCell _ _=wl at hX8 hb8 hrow8 hz8 ⊢
     have hXwl:X<wl.heap.size:=by omega
     have hzl:=hb8.size
     have G0:=(hb8.block w.heap.size (by omega)).trans g0
     have G1:=(hb8.block (w.heap.size+1) hlt2).trans g1
     go_wp2
     go_loopw [51] (fun q' wr=>∃ (j n:Nat) (ap:Option Addr) (cp:Nat),j≤ks.length∧n=(parA toks u (d.its.take j)).length∧q'=.int .i64 j∧Alk (fun b=>b<wl.heap.size∧b≠X) wl wr∧wr.heap[X]?=some (.cells (dCells pb tt (.slice ap n cp) a.base (.slice ao a.clause.length cc) tp a.bare) 64 (0,0))∧OwnK (FK XA) wl.heap.size 75 wr (.slice ap n cp) (parA toks u (d.its.take j))∧Below w2.heap.size w2 wr) (fun q' _=>ks.length - (intOf q').toNat)
     case atStart=>exact ⟨0,0,none,0,Nat.zero_le _,by rw [List.take_zero,parA];rfl,rfl,Alk.refl _ _,hX8,by rw [List.take_zero,parA];exact OwnK.nil _ _ _ _,hb8⟩
     case round =>
      obtain ⟨j,n,ap,cp,hj,hn,rfl,halk,hXr,hrow,hbl⟩:=hrel
      have hszr:=halk.1
      have hr0:=(halk.2 w.heap.size ⟨by omega,by omega⟩ (by omega)).trans G0
      have hbwr:Below w.heap.size w wr:=hal2.trans (hbl.mono hz2)
      have hplj:=parA_len toks (d.its.take j) u
      rw [← hn,List.length_take] at hplj
      by_cases hjl:j<ks.length
      ·
       have hx:=(hbwr.cell (p:=⟨bk,ok+j,none⟩) (by show bk<_;omega)).trans (HKC.out j hjl)
       have hjp:j<(posL u d.its).length:=by have:=HLK.out;omega
       have hrep:=HRP.out j hjl hjp
       have hst:=HRD.out j hjp
       have hmem:=List.getElem_mem hjp
       generalize (posL u d.its)[j]=it at hrep hst hmem
       obtain ⟨it,v⟩:=it
       simp only at hrep hst
       generalize ks[j]=qk at hx hrep
       obtain ⟨m,xn,rfl,hnx,hkx⟩:=rep_kind hrep
       obtain ⟨hm,hnx'⟩:=List.getElem?_eq_some_iff.1 hnx
       obtain ⟨b',off',cap',kv',e',_,y0,_,_,_⟩:=HT.out.node hm
       obtain ⟨⟨rfl,rfl⟩,rfl⟩:(b=b'∧off=off')∧cap=cap':=by simpa using e'
       rw [hnx'] at y0
       have y0':=(hbwr.cell (p:=⟨b,off+m * 3,none⟩) (by show b<_;omega)).trans y0
       have hmI:(m:Int)<(nodes.length:Int):=by omega
       have hjI:(j:Int)<(ks.length:Int):=by omega
       obtain ⟨r0',r1'⟩:=rd_cells hr0
       generalize parA toks u (d.its.take j)=acc at hn hrow hst
       have HN:=Lib.hid hn
       have HST:=Lib.hid hst
       clear hn hst y0 e' hnx hnx' hX8 hb8 G0 G1 g0 g1 Y2 hal2
       by_cases hpar:∃ t,it=.par t
       ·obtain ⟨tS,rfl⟩:=hpar
        have hk4:xn.kind=4:=hkx
        rw [hk4] at y0'
        have HC:=Lib.hid (HPAR.out tS v hmem m wr.drew hrep (HT.out.below (hbwr.mono hB).drew) (Nat.le_trans hB hbwr.size))
        have hst':parA toks u (d.its.take (j+1))=acc++[tS.parFF toks v]:=HST.out
        generalize tS.parFF toks v=f at HC hst'
        have HS2:=Lib.hid hst'
        obtain ⟨lrow,h1,hown,hes⟩:=hrow
        rw [← HN.out] at hown
        have hXwr:=(Array.getElem?_eq_some_iff.1 hXr).1
        obtain ⟨⟨d0,d1,d2,d3,d4⟩,⟨d5,d6,d7,d8,d9⟩,⟨d10,d11,d12,d13,d14⟩,dz⟩:=def_cells2 hXr
        have hlts:∀ b,some b=(Value.slice ap n cp).ownBlock→wl.heap.size≤b∧b<wr.heap.size:=fun b q=>hown.lt b q.symm
        have hneX:some X≠(Value.slice ap n cp).ownBlock:=fun q=>by have:=(hlts X q).1;omega
        clear hst' HST hk4 hkx hrep hmem d0 d1 d3 d4 d5 d6 d7 d8 d9 d10 d11 d12 d13 d14
        have HL:=Lib.hid hlts
        clear hlts
        go_wp2
        go_region_law ((first
         | (refine step_append_lies _ (by rfl) _ _ _ (by rfl) wl.heap.size 75 ip _ 5 64 Tryz.underlying62 hip1 hip2 hip3 hip4 rfl (by omega) (.slice ap n cp) n _ (by rfl) ((own_below (owns_drew hown) hb2).alloc _) ⟨W2.heap.size,0,none⟩ 1 1 [.string ⟨f.name.toArray⟩,.int .i64 f.base,.slice ao2 f.clause.length cc2,.int .i64 f.at_,.int .i64 f.bare] (by rfl) (by rfl) (World.news_of_block (cs:=#[.string ⟨f.name.toArray⟩,.int .i64 f.base,.slice ao2 f.clause.length cc2,.int .i64 f.at_,.int .i64 f.bare]) (t:=75) (fr:=(0,0)) (heap_alloc_new W2 _)) (by simp [Value.oneCell']) (by omega) (by unfold maxLen;omega) (by omega) (by have:=hb2.size;simp at this ⊢;omega) (W2.heap.size+1) (by simp) ?_;intro gg cap5 w5' hown5 hgrow5 hat5 hlt5;have hbe5:=(hgrow5.block X (by have:=hb2.size;simp at this ⊢;omega) hneX).trans ((Lib.alloc_old W2 _ X (by have:=hb2.size;simp at this;omega)).trans hbe2);have r65:=(def_cells2 hbe5).1.2.2.1;have z65:=(def_cells2 hbe5).2.2.2 2)
         | (refine step_call rfl 76 _ _ rfl HC.out (by rfl) (ent _ _) ?_;rintro e W2 ⟨ao2,cc2,rfl,hxe,hb2⟩;refine ⟨_,rfl,?_⟩;have hbe2:=(hb2.block X hXwr).trans hXr;have r62:=(def_cells2 hbe2).1.2.2.1;have r63:=fun o=>Lib.cell?_alloc_some o r62)))
        all_goals
         obtain ⟨q1,q2,q3⟩:=OwnQ.round (K:=FK XA) (Q:=fun b=>wl.heap.size≤b) (wr:=wr.drew) (kv:=.slice ap n cp) (kv5:=.slice (some ⟨gg,0,none⟩) (n+1) cap5) (acc:=acc) (a:=f) (x:=.slice ao2 f.clause.length cc2) (l:=lrow) (show Alk _ wl wr.drew from halk) hXwl (by omega) h1 (by rw [← HN.out];exact hown) (fun p hp=>(FK XA).frame (hes p hp) (Alk.drew _ wr)) ((FK XA).imp (P:=fun b=>wr.drew.heap.size≤b) hxe fun b hb _=>⟨Nat.le_trans hszr hb,fun q=>by have:=(HL.out b q).2;have:wr.drew.heap.size=wr.heap.size:=rfl;omega⟩) hb2 (by rw [← HN.out];exact hown5) hgrow5 rfl hat5 2 (.slice (some ⟨gg,0,none⟩) (n+1) cap5)
         have hbe6:(w5'.setCell ⟨X,2,none⟩ (.slice (some ⟨gg,0,none⟩) (n+1) cap5)).heap[X]?=some (.cells (dCells pb tt (.slice (some ⟨gg,0,none⟩) (n+1) cap5) a.base (.slice ao a.clause.length cc) tp a.bare) 64 (0,0)):=heap_setCell_same w5' X 2 _ _ _ hbe5
         have hbl6:=q3 w2.heap.size w2 hXl hbl.drew
         clear hgrow5 hown5 hat5 hbe5 r65 z65 hbe2 r62 r63 hxe hb2 HC hes hown halk hXr d2 dz hx y0' r0' r1' hr0 hbwr hbl h1
         generalize w5'.setCell _ _=w6' at q1 q2 hbe6 hbl6 ⊢
         go_wp2
         go_roundw
         case rel =>
          refine ⟨j+1,n+1,some ⟨gg,0,none⟩,cap5,by omega,?_⟩
          rw [HS2.out]
          exact ⟨by rw [List.length_append,← HN.out];rfl,by go_num,q2,hbe6,q1,hbl6⟩
         case measure=>simp [intOf];omega
       ·have hne:=it.kind_nopar (fun t e=>hpar ⟨t,e⟩)
        have HPO:=Lib.hid (it.par_nopar toks v (fun t e=>hpar ⟨t,e⟩))
        rw [← hkx] at hne
        generalize xn.kind=kx at y0' hne
        have t4:(kx == 4)=false:=by rw [← Bool.not_eq_true,beq_iff_eq];exact hne
        clear hne hpar hkx hrep hmem
        go_wp2
        go_roundw
        case rel =>
         have e1:=HST.out
         rw [HPO.out,List.append_nil] at e1
         refine ⟨j+1,n,ap,cp,by omega,?_⟩
         rw [e1]
         exact ⟨HN.out,by go_num,halk,hXr,hrow,hbl⟩
        case measure=>simp [intOf];omega
      ·obtain rfl:j=ks.length:=by omega
       have hti:d.its.take ks.length=d.its:=List.take_of_length_le (by have:=HIT.out;omega)
       rw [hti,← HPS.out] at hn hrow
       have hjI:decide ((ks.length:Int)<(ks.length:Int))=false:=decide_eq_false (by omega)
       have HN:=Lib.hid hn
       have hXwr:=(Array.getElem?_eq_some_iff.1 hXr).1
       have G1r:=(halk.2 (w.heap.size+1) ⟨by omega,by omega⟩ (by omega)).trans G1
       have hclr:RowK (EK XA) (fun b=>w6.heap.size≤b∧b<wl.heap.size) wr (.slice ao a.clause.length cc) a.clause:=(hrow8.imp (Q:=fun b=>(w6.heap.size≤b∧b<wl.heap.size)∧b<wl.heap.size∧b≠X) fun b hb hl=>⟨⟨hb,hl⟩,hl,by omega⟩).frame ⟨halk.1,fun b hb hl=>halk.2 b hb.2 hl⟩ |>.imp fun b hb _=>hb.1
       have hpr:=hrow.row
       have hz0:wr.cell? ⟨bk,ok+(ks.length - 2),none⟩=some (.int .i64 k2):=(cell_later hbl Z2)
       have HC:=Lib.hid (HBD.out wr.drew (HT.out.below (hbwr.mono hB).drew) (Nat.le_trans hB hbwr.size))
       obtain ⟨r0',r1'⟩:=rd_cells hr0
       clear hn hti hrow8 hX8 hb8 hrow halk G0 G1 g0 g1 Y2 HBD HPAR HRD HRP HKC Z2
       have hnX0:w.heap.size≠X:=by omega
       have hnX1:bk≠X:=by omega
       have hwr2:IntKind.i64.wrap ((ks.length:Int) - 2)=(ks.length:Int) - 2:=IntWalk.i64_in _ (by omega)
       have hw0:(0:Int)≤(ks.length:Int) - 2:=by omega
       have hw2:(2:Int)≤(ks.length:Int):=by omega
       have hw3:(ks.length:Int) - 2<(ks.length:Int):=by omega
       have hw4:((ks.length:Int) - 2).toNat=ks.length - 2:=by omega
       go_wp2
       go_region_held3 (fun w'=>w'.cell? ⟨w.heap.size,0,none⟩=some (.slice a1 toks.length c1)∧w'.cell? ⟨w.heap.size,1,none⟩=some (.slice (some ⟨b,off,none⟩) nodes.length cap)∧w'.cell? ⟨bk,ok+(ks.length - 2),none⟩=some (.int .i64 k2))
        (first|(with_reducible exact p3)|((try dsimp only);with_reducible exact And.intro ((set8e_cell w9 X _ _ _ _ _ _ _ _ hnX0).trans p3.1) (And.intro ((set8e_cell w9 X _ _ _ _ _ _ _ _ hnX0).trans p3.2.1) ((set8e_cell w9 X _ _ _ _ _ _ _ _ hnX1).trans p3.2.2)))|(go_keep;done))
        ((go_at_call 42;refine HC.out.mono ?_;rintro e w9 ⟨am,wn,cm,ae,ce,rfl,hx9,hb9⟩;have hq9:Below wr.heap.size wr w9:=(Below.refl wr.heap.size wr).drew.trans hb9;have p3:=And.intro (cell_later hq9 r0') (And.intro (cell_later hq9 r1') (cell_later hq9 hz0));have hX9:=(hq9.block X hXwr).trans hXr;obtain ⟨⟨d0,d1,d2,d3,d4⟩,⟨d5,d6,d7,d8,d9⟩,⟨d10,d11,d12,d13,d14⟩,dz⟩:=def_cells2 hX9))
       obtain rfl:=HN.out
       have hle:w.heap.size≤X:=by omega
       have hR1:=(Array.getElem?_eq_some_iff.1 G1r).1
       have hX10:=set8e_same (show w9.heap[X]?=some (.cells #[.bool pb,.string ⟨tt.toArray⟩,.slice ap pars.length cp,.int .i64 a.base,.slice ao a.clause.length cc,.int .i64 0,.string ⟨#[]⟩,.string ⟨#[]⟩,.bool false,.slice none 0 0,.bool false,.slice none 0 0,.int .i64 0,.int .i64 tp,.int .i64 a.bare] 64 (0,0)) from hX9) (.int .i64 x.op) (.string ⟨x.name.toArray⟩) (.string ⟨x.module.toArray⟩) (.bool (decide (x.num<0))) (.slice am wn cm) (.bool x.yes) (.slice ae x.kids.length ce) (.int .i64 x.at_)
       have hb10:=set8e_below (hbwr.trans (hq9.mono hbwr.size)) hle (.int .i64 x.op) (.string ⟨x.name.toArray⟩) (.string ⟨x.module.toArray⟩) (.bool (decide (x.num<0))) (.slice am wn cm) (.bool x.yes) (.slice ae x.kids.length ce) (.int .i64 x.at_)
       have hA:=fun P hP=>set8e_alk P w9 X (.int .i64 x.op) (.string ⟨x.name.toArray⟩) (.string ⟨x.module.toArray⟩) (.bool (decide (x.num<0))) (.slice am wn cm) (.bool x.yes) (.slice ae x.kids.length ce) (.int .i64 x.at_) hP
       have G10:=((hA (fun k=>k≠X) (fun k hk=>hk)).2 (w.heap.size+1) (by omega) (Nat.lt_of_lt_of_le hR1 hq9.size)).trans ((hq9.block _ hR1).trans G1r)
       have hp10:=(hpr.frame (Alk.of hq9)).frame (hA (fun b=>wl.heap.size≤b) fun k hk=>by omega)
       have hc10:=(hclr.frame (Alk.of hq9)).frame (hA (fun b=>w6.heap.size≤b∧b<wl.heap.size) fun k hk=>by omega)
       have hx10:=hx9.frame (hA (fun b=>wr.drew.heap.size≤b) fun k hk=>by have:wr.drew.heap.size=wr.heap.size:=rfl;omega)
       clear p3 d0 d1 d2 d3 d4 d5 d6 d7 d8 d9 d10 d11 d12 d13 d14 dz hA hX9 hx9 hq9 hb9 hwr2 hw0 hw2 hw3 hw4 r0' r1' hz0 HC hXr hr0 G1r hpr hclr HN
       generalize (World.setCell (World.setCell (World.setCell (World.setCell (World.setCell (World.setCell (World.setCell (World.setCell _ _ _) _ _) _ _) _ _) _ _) _ _) _ _) _ _)=w10 at hX10 hb10 G10 hp10 hc10 hx10 ⊢
       obtain ⟨⟨d0,d1,d2,d3,d4⟩,⟨d5,d6,d7,d8,d9⟩,⟨d10,d11,d12,d13,d14⟩,dz⟩:=def_cells2 hX10
       obtain ⟨⟨e0,e1,e2,e3,e4⟩,⟨e5,e6,e7,e8,e9⟩,⟨e10,e11,e12,e13,e14⟩,ez⟩:=def_cells2 G10
       go_wp2
       refine bodyPost_ret (v:=.agg #[.bool pb,.string ⟨tt.toArray⟩,.slice ap pars.length cp,.int .i64 a.base,.slice ao a.clause.length cc,.int .i64 x.op,.string ⟨x.name.toArray⟩,.string ⟨x.module.toArray⟩,.bool (decide (x.num<0)),.slice am wn cm,.bool x.yes,.slice ae x.kids.length ce,.int .i64 x.at_,.int .i64 tp,.int .i64 a.bare]) (by simp [results,Tryz.results41,go_sem,e0,e1,e2,e3,e4,e5,e6,e7,e8,e9,e10,e11,e12,e13,e14]) rfl ⟨ap,cp,ao,cc,am,wn,cm,ae,ce,rfl,⟨?_,?_,?_⟩,?_⟩
       ·exact (hp10.frame (set15_alk _ _ _ _ _ _ _ _ _ _ _ _ _ _ _ _ _ _ fun k hk=>by omega)).imp fun b hb _=>by omega
       ·exact (hc10.frame (set15_alk _ _ _ _ _ _ _ _ _ _ _ _ _ _ _ _ _ _ fun k hk=>by omega)).imp fun b hb _=>by omega
       ·exact (hx10.frame (set15_alk _ _ _ _ _ _ _ _ _ _ _ _ _ _ _ _ _ _ fun k hk=>by have:wr.drew.heap.size=wr.heap.size:=rfl;omega)).imp fun b hb _=>by have:wr.drew.heap.size=wr.heap.size:=rfl;omega
       ·exact set15_below hb10 (by omega) _ _ _ _ _ _ _ _ _ _ _ _ _ _ _
theorem place_len {S:List UInt8}{toks:List Tok}(h:Laid S 0 toks)(v:Nat):placeAt toks v+(textAt toks v).length≤S.length:=by
 have hs:=h.some
 have hi:min v (toks.length - 1)<toks.length:=by omega
 have hp:=h.place _ hi
 have h1:=h.inside (min v (toks.length - 1)+1) (by omega)
 rw [tokAt_succ toks _ hi,tokLen] at h1
 have e:peekF toks v=toks[min v (toks.length - 1)]:=by
  rw [peekF,List.getD_eq_getElem?_getD,List.getElem?_eq_getElem hi,Option.getD_some]
 unfold placeAt textAt
 rw [e,hp]
 omega
theorem rde_ok {S:List UInt8}{toks:List Tok}{nodes:List Nd}{p:PgS}(F:PGood S toks nodes p)(B:Nat)(tv nv:Value):RdE B tv nv toks nodes:=by
 have hL:=lexAll_laid F.lexed
 have hs:=F.small
 refine ⟨fun v=>Nat.le_trans (place_len hL v) (by omega),F.good.kids,fun cl e u ho hl k W hr hT hW=>?_⟩
 refine rexpr_reads ⟨B,tv,nv,toks,nodes,cl⟩ ⟨F.good.fewt,fun u hu hk W=>?_⟩ (SizeOf.sizeOf e+1) e u (by omega) ho hl k W hr ⟨hT,hW⟩
 have h:=lexAll_nums F.lexed _ (peek_mem hL.some u) hk
 obtain ⟨X,hX,eX⟩:=bytes_of (textAt toks u)
 simp only
 rw [eX,← hX]
 have h':numTok X.data.toList:=by rw [hX];exact h
 refine zparse_any X W ?_ ?_ h'.1 (fun q=>by rw [← size_list];exact h'.2.2.2 q)
 ·rw [← size_list];exact List.length_pos_iff.2 h'.2.1
 ·rw [← size_list];exact h'.2.2.1
theorem root_prog {S:List UInt8}{toks:List Tok}{nodes:List Nd}{p:PgS}(F:PGood S toks nodes p):∃ (r:Nat) (ks:List Int),nodes.length=r+1∧nodes[r]?=some ⟨(1:Nat),-1,ks⟩∧RepL nodes ks 0 p.kids:=by
 have hr:=Rep.em (pre:=[]) p.pt 0 0 rfl
 have hnd:nodes.length=p.pt.nd:=by rw [F.nodes_eq,PT.em_len]
 have hp:=p.pt.nd_pos
 rw [List.nil_append,Nat.zero_add,← F.nodes_eq,← hnd] at hr
 obtain ⟨r,hr1⟩:∃ r,nodes.length=r+1:=⟨nodes.length - 1,by omega⟩
 rw [hr1,show (((r+1:Nat):Int) - 1)=(r:Int) by omega,PgS.pt] at hr
 obtain ⟨ks,h1,h2⟩:=rep_node hr
 exact ⟨r,ks,hr1,h1,h2⟩
def OfPost (p:PP)(w:World)(e:Ending)(w':World):Prop :=
 ∃ ai ci ad cd,e=.returned (.tuple #[.agg #[.slice ai p.imports.length ci,.slice ad p.defs.length cd],.int .i64 0])∧(ai=none→ci=0)∧PAtA (fun b=>w.heap.size≤b) w' (.slice ai p.imports.length ci) (.slice ad p.defs.length cd) p∧Below w.heap.size w w'
def OfSt (IK:RK (List UInt8 × Nat) Unit)(DK:RK DD DV)(p:PP)(wl:World)(pb e1 e2 j:Nat)(W:World)(iv dv:Value):Prop :=
 (j≤p.imports.length∧OwnK IK wl.heap.size e1 W iv (p.imports.take j)∧dv=.slice none 0 0) ∨
 (p.imports.length≤j∧(∀ n c,iv=.slice none n c→c=0)∧∃ w2:World,wl.heap.size≤w2.heap.size∧Alk (fun b=>b<wl.heap.size∧b≠pb) wl w2∧RowK IK (fun b=>wl.heap.size≤b) w2 iv p.imports∧Alk (fun b=>b<w2.heap.size∧b≠pb) w2 W∧OwnK DK w2.heap.size e2 W dv (p.defs.take (j - p.imports.length)))
theorem OwnK.nilc {α β:Type}{K:RK α β}{C e:Nat}{w:World}{v:Value}{zs:List α}(h:OwnK K C e w v zs):∀ n c,v=.slice none n c→c=0:=by
 obtain ⟨l,_,h2,_⟩:=h
 intro n c hv
 rcases h2.2 with ⟨h3,_⟩|⟨g,cap,cur,h3,_⟩
 ·rw [hv] at h3;injection h3
 ·rw [hv] at h3;injection h3 with h4;cases h4
theorem OfSt.two {IK:RK (List UInt8 × Nat) Unit}{DK:RK DD DV}{p:PP}{wl:World}{pb e1 e2 j:Nat}{W:World}{iv dv:Value}(h:OfSt IK DK p wl pb e1 e2 j W iv dv)(hj:p.imports.length≤j)(ha:Alk (fun b=>b<wl.heap.size∧b≠pb) wl W):(∀ n c,iv=.slice none n c→c=0)∧∃ w2:World,wl.heap.size≤w2.heap.size∧Alk (fun b=>b<wl.heap.size∧b≠pb) wl w2∧RowK IK (fun b=>wl.heap.size≤b) w2 iv p.imports∧Alk (fun b=>b<w2.heap.size∧b≠pb) w2 W∧OwnK DK w2.heap.size e2 W dv (p.defs.take (j - p.imports.length)):=by
 rcases h with ⟨h1,h2,rfl⟩|⟨_,h2,h3⟩
 ·obtain rfl:j=p.imports.length:=by omega
  rw [List.take_length] at h2
  refine ⟨h2.nilc,W,ha.1,ha,h2.row,Alk.refl _ _,?_⟩
  rw [Nat.sub_self,List.take_zero]
  exact OwnK.nil _ _ _ _
 ·exact ⟨h2,h3⟩
end Go.Proofs.YtbodlpoomfefcaaGreatDoor
