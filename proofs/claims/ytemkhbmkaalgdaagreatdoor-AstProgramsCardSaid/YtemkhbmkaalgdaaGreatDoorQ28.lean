/- Walks and plain laws: FDefW. -/
import Derived.Test.YtemkhbmkaalgdaaGreatDoorQ26
import Derived.Test.YtemkhbmkaalgdaaGreatDoorQ27
import Derived.IntWalk
import Derived.Deep.RegionHeldLaw
set_option maxHeartbeats 16000000
set_option maxRecDepth 100000
set_option linter.unusedVariables false
set_option linter.unusedSimpArgs false
namespace Go.Proofs.YtemkhbmkaalgdaaGreatDoor
open Go.RowKit Go
theorem Tryz.infoRF:(Tryz.prog.info? 76).map (fun i=>(i.zero,i.size,i.bytes))=some (some (.agg #[.string ⟨#[]⟩,.int .i64 0,.slice none 0 0,.int .i64 0,.int .i64 0]),5,64):=by kernel_rfl
theorem Tryz.entersFT:∀ args w,(callFunc 64 args).run Tryz.prog w=.ok (.enter 64 args) w:=Go.Proofs.enters_of Tryz.func64 (by kernel_rfl) rfl
theorem Tryz.entersFL:∀ args w,(callFunc 38 args).run Tryz.prog w=.ok (.enter 38 args) w:=Go.Proofs.enters_of Tryz.func38 (by kernel_rfl) rfl
def FdPost (d:DD)(w:World)(e:Ending)(w':World):Prop :=
 ∃ ap cp ac cc ae ce,e=.returned (.agg #[.bool d.pub,.slice ap d.params.length cp,.string ⟨d.res.name.toArray⟩,.int .i64 d.res.base,.slice ac d.res.clause.length cc,.int .i64 d.res.at_,.int .i64 d.res.bare,.int .i64 d.body.op,.string ⟨d.body.name.toArray⟩,.string ⟨d.body.module.toArray⟩,.string ⟨d.body.txt.toArray⟩,.bool d.body.yes,.slice ae d.body.kids.length ce,.int .i64 d.body.at_]) ∧
  DR.inn (fun b=>w.heap.size≤b) w' d ⟨.slice ap d.params.length cp,.slice ac d.res.clause.length cc,.nilIface,.slice ae d.body.kids.length ce⟩∧Below w.heap.size w w'
def fdCells (pb:Bool)(pv:Value)(nm:List UInt8)(base:Nat)(cv:Value)(at_:Nat)(bare:Int):Array Value :=
 #[.bool pb,pv,.string ⟨nm.toArray⟩,.int .i64 base,cv,.int .i64 at_,.int .i64 bare,.int .i64 0,.string ⟨#[]⟩,.string ⟨#[]⟩,.string ⟨#[]⟩,.bool false,.slice none 0 0,.int .i64 0]
theorem fdef_any {B:Nat}{tv nv:Value}{toks:List Tok}{nodes:List Nd}(E:FdE B tv nv toks nodes)(d:DfS)(u:Nat)(ho:d.ok toks u)(hl:u+d.pt.lv≤toks.length)(i:Nat)(w:World)(hr:Rep nodes i u d.pt)(h:TreeAt B w (.agg #[tv,nv]) toks nodes)(hB:B≤w.heap.size) :
  Calls Tryz.prog 39 #[.agg #[tv,nv],.int .i64 i] w (FdPost (d.dd toks u) w):=by
 obtain ⟨ip,hip1,hip2,hip3,hip4⟩:=info_parts Tryz.infoRF
 have entT:=Tryz.entersFT
 have entL:=Tryz.entersFL
 rw [d.its_pt] at hr hl
 obtain ⟨ks,hn,hk⟩:=rep_node hr
 have hlv:u+lvL (d.its.map It.pt)≤toks.length:=by rw [PT.lv] at hl;exact hl
 have HLV:=Lib.hid hlv
 have K:=def_kids ho hlv hk
 obtain ⟨k0,hq0,hl0,hu0⟩:=K.first
 obtain ⟨k1,hq1,hl1,hu1⟩:=K.name
 obtain ⟨k2,hq2,hr2,hu2⟩:=K.body
 have hmany:=K.many
 have hks:=E.few _ (List.mem_of_getElem? hn)
 have HTY:=Lib.hid (fun W hT hW=>fdtyped E d u ho ks hlv i hn hk W hT hW)
 have HBD:Hid (∀ W,TreeAt B W (.agg #[tv,nv]) toks nodes→B≤W.heap.size→Calls Tryz.prog 65 #[.agg #[tv,nv],.int .i64 k2] W (EPostR (d.body.pe toks (d.at3 u)) W)):=Lib.hid (fun W hT hW=>(E.exprs false d.body (d.at3 u) ho.2.2.2.2.2.2 hu2 k2 W hr2 hT hW).mono fun _ _ h=>h.r)
 have HPAR:Hid (∀ (t:TyS) (v:Nat),(It.par t,v)∈posL u d.its→∀ (m:Nat) (W:World),Rep nodes m v t.par→TreeAt B W (.agg #[tv,nv]) toks nodes→B≤W.heap.size→Calls Tryz.prog 64 #[.agg #[tv,nv],.int .i64 m,tokVal (peekF toks v)] W (FfPost (t.parFF toks v) W)):=Lib.hid (fun t v hm m W hrm hT hW=>by
  have hend:=posL_end _ _ _ hm
  exact fpar_reads E t v (par_in ho hm) (by simp only [It.pt] at hend;omega) m W hrm hT hW)
 have HLF:Hid (∀ (k v:Nat) W,nodes[k]?=some ⟨19,(v:Nat),[]⟩→v<toks.length→TreeAt B W (.agg #[tv,nv]) toks nodes→B≤W.heap.size→Calls Tryz.prog 38 #[.agg #[tv,nv],.int .i64 k] W fun e w'=>e=.returned (tokVal (peekF toks v))∧Below W.heap.size W w'):=Lib.hid (fun k v W hn hv hT hW=>by
  have:=fleaf_yes B tv nv toks nodes k v W hT hW hn hv
  have e:=tok_peek hv
  rw [List.getElem?_eq_getElem hv] at e
  rw [Option.some.inj e] at this
  exact this)
 have e2:(peekF toks u).text=if d.pub=true then tPub else tFun:=by
  cases hd:d.pub with
  | true=>exact ho.1 hd
  | false =>
   have h1:=ho.2.1
   unfold DfS.at1 DfS.lead at h1
   rw [hd] at h1
   simp only [Bool.false_eq_true,if_false,lvL,Nat.add_zero] at h1
   exact h1
 have HTX:=Lib.hid (fun W hT hW=>HLF.out k0 u W hl0 hu0 hT hW)
 have HTK:=Lib.hid (fun W hT hW=>HLF.out k1 (d.at1 u+1) W hl1 hu1 hT hW)
 have hdd:d.dd toks u=⟨d.pub,parA toks u d.its,(d.dd toks u).res,d.body.pe toks (d.at3 u)⟩:=by rw [d.pars_par];rfl
 rw [hdd]
 clear hdd
 obtain ⟨pars,hpars⟩:∃ pars,pars=parA toks u d.its:=⟨_,rfl⟩
 rw [← hpars]
 have HPS:=Lib.hid hpars
 clear hpars
 generalize (d.dd toks u).res=rs at HTY ⊢
 obtain ⟨hlk,hrp⟩:=posL_rep _ _ _ hk
 have HRP:=Lib.hid hrp
 have HLK:Hid (ks.length=(posL u d.its).length):=Lib.hid (by rw [posL_len];exact hlk)
 have HRD:=Lib.hid (parA_round toks d.its u)
 have hpl:(parA toks u d.its).length≤1000000:=by
  have:=parA_len toks d.its u
  simp only at hks
  omega
 have HIT:=Lib.hid (show d.its.length=ks.length from hlk.symm)
 generalize d.body.pe toks (d.at3 u)=x at HBD ⊢
 generalize hpb:d.pub=pb at hq1 e2 ⊢
 generalize hqq:(if pb=true then 2 else 1)=q at hq1
 have HQ:=Lib.hid hqq
 unfold tokVal strV at HTK HTX HTY
 generalize peekF toks (d.at1 u+1)=t at HTK HTY
 generalize peekF toks u=t0 at HTX e2
 obtain ⟨tk,tl,tt,tp⟩:=t
 obtain ⟨sk,sl,st,sp⟩:=t0
 simp only at HTK HTX HTY e2
 subst e2
 have HT:=Lib.hid h
 obtain ⟨hi,hni⟩:=List.getElem?_eq_some_iff.1 hn
 obtain ⟨a1,c1,_,_,e⟩:=h.slices
 obtain ⟨b,off,cap,kv,rfl,hb,y0,y1,y2,hkv⟩:=h.node hi
 obtain ⟨rfl,-⟩:tv=.slice a1 toks.length c1∧_:=by simpa using e
 rw [hni] at hkv
 simp only at hkv
 obtain ⟨ak,ck,rfl,_,hkf⟩:=hkv.form
 obtain ⟨bk,ok,rfl,hbk,hkc⟩:=hkf (by omega)
 obtain ⟨hq0',hq0''⟩:=List.getElem?_eq_some_iff.1 hq0
 obtain ⟨hq1',hq1''⟩:=List.getElem?_eq_some_iff.1 hq1
 obtain ⟨hq2',hq2''⟩:=List.getElem?_eq_some_iff.1 hq2
 have z0:=hkc 0 hq0'
 have z1:=hkc q hq1'
 have z2:=hkc (ks.length - 2) hq2'
 rw [hq0'',Nat.add_zero] at z0
 rw [hq1''] at z1
 rw [hq2''] at z2
 have HKC:=Lib.hid hkc
 have hal2:=((Below.refl w.heap.size w).alloc (Nat.le_refl _) (.cells #[.slice a1 toks.length c1,.slice (some ⟨b,off,none⟩) nodes.length cap] 67)).alloc (by simp) (.cells #[.bool false,.slice none 0 0,.string ⟨#[]⟩,.int .i64 0,.slice none 0 0,.int .i64 0,.int .i64 0,.int .i64 0,.string ⟨#[]⟩,.string ⟨#[]⟩,.string ⟨#[]⟩,.bool false,.slice none 0 0,.int .i64 0] 80)
 have g0:=(Lib.alloc_old _ (.cells #[.bool false,.slice none 0 0,.string ⟨#[]⟩,.int .i64 0,.slice none 0 0,.int .i64 0,.int .i64 0,.int .i64 0,.string ⟨#[]⟩,.string ⟨#[]⟩,.string ⟨#[]⟩,.bool false,.slice none 0 0,.int .i64 0] 80) w.heap.size (by simp)).trans (heap_alloc_new w (.cells #[.slice a1 toks.length c1,.slice (some ⟨b,off,none⟩) nodes.length cap] 67))
 have g1:=heap_alloc_new (w.alloc (.cells #[.slice a1 toks.length c1,.slice (some ⟨b,off,none⟩) nodes.length cap] 67)) (.cells #[.bool false,.slice none 0 0,.string ⟨#[]⟩,.int .i64 0,.slice none 0 0,.int .i64 0,.int .i64 0,.int .i64 0,.string ⟨#[]⟩,.string ⟨#[]⟩,.string ⟨#[]⟩,.bool false,.slice none 0 0,.int .i64 0] 80)
 rw [World.size_alloc] at g1
 have Y2:=cell_later hal2 y2
 have Z0:=cell_later hal2 z0
 have Z1:=cell_later hal2 z1
 have Z2:=cell_later hal2 z2
 have hiI:(i:Int)<(nodes.length:Int):=by omega
 have hq0I:(0:Int)<(ks.length:Int):=by omega
 have hq1I:(q:Int)<(ks.length:Int):=by omega
 clear h e y0 y1 y2 z0 z1 z2 hkv hkf hkc hn hni hlk hrp hk hr hlv hl ho hq0 hq1 hq2 hq0'' hq1'' hq2'' hl0 hl1 hr2 hu0 hu1 hu2 K E hpb hqq
 go_enter Tryz.func39,Tryz.ntmps39
 obtain ⟨r0,r1⟩:=cells2 g0
 go_upto_region 2 with (fail)
 generalize (w.alloc _).alloc _=w2 at g0 g1 hal2 Y2 Z0 Z1 Z2 r0 r1 ⊢
 have hz2:=hal2.size
 have hlt2:w.heap.size+1<w2.heap.size:=(Array.getElem?_eq_some_iff.1 g1).1
 have hne0:w.heap.size≠w2.heap.size:=by omega
 have hne1:bk≠w2.heap.size:=by omega
 have HX':=Lib.hid (fun W (hb:Below w2.heap.size w2 W)=>(HTX.out W (HT.out.below ((hal2.trans (hb.mono hz2)).mono hB)) (by have:=hb.size;omega)).mono (R':=fun e w'=>e=.returned (.agg #[.int .i64 sk,.string ⟨sl.toArray⟩,.string ⟨(if pb=true then tPub else tFun).toArray⟩,.int .i64 sp])∧Below w2.heap.size w2 w'∧Below W.heap.size W w') fun e w' h=>⟨h.1,hb.trans (h.2.mono hb.size),h.2⟩)
 go_cut [6] (fun p wc=>∃ X:Nat,p=.pointer (some ⟨X,0,none⟩)∧wc.heap[X]?=some (.cells (fdCells pb (.slice none 0 0) [] 0 (.slice none 0 0) 0 0) 80 (0,0))∧Below w2.heap.size w2 wc∧w2.heap.size≤X)
 case first =>
  cases pb with
  | true =>
   simp only [if_true,tPub] at HX'
   have hfl:=fun W=>Tryz.rtokField2 (.int .i64 sk) (.string ⟨sl.toArray⟩) (.string ⟨#[112,117,98]⟩) (.int .i64 sp) W
   go_region_held3 (fun w'=>w'.cell? ⟨w.heap.size,0,none⟩=some (.slice a1 toks.length c1)∧w'.cell? ⟨w.heap.size,1,none⟩=some (.slice (some ⟨b,off,none⟩) nodes.length cap)∧w'.cell? ⟨bk,ok,none⟩=some (.int .i64 k0))
    (first|(with_reducible exact p3)|((try dsimp only);with_reducible exact And.intro ((fset14_cell w3 w2.heap.size _ _ _ _ _ _ _ _ _ _ _ _ _ _ hne0).trans p3.1) (And.intro ((fset14_cell w3 w2.heap.size _ _ _ _ _ _ _ _ _ _ _ _ _ _ hne0).trans p3.2.1) ((fset14_cell w3 w2.heap.size _ _ _ _ _ _ _ _ _ _ _ _ _ _ hne1).trans p3.2.2)))|(go_keep;done))
    (first|(go_at_call 38;refine (HX'.out _ ?_).mono ?_;(first|exact (Below.refl _ _).drew|exact ((Below.refl _ _).alloc (Nat.le_refl _) _).drew);rintro e w3 ⟨rfl,hq3,hb3⟩;have p3:=And.intro (cell_later hq3 r0) (And.intro (cell_later hq3 r1) (cell_later hq3 Z0));try (have hTz:=(hb3.block w2.heap.size (by simp)).trans (heap_alloc_new w2 (.cells #[.bool false,.slice none 0 0,.string ⟨#[]⟩,.int .i64 0,.slice none 0 0,.int .i64 0,.int .i64 0,.int .i64 0,.string ⟨#[]⟩,.string ⟨#[]⟩,.string ⟨#[]⟩,.bool false,.slice none 0 0,.int .i64 0] 80));obtain ⟨⟨e0,e1,e2,e3,e4,e5,e6⟩,⟨e7,e8,e9,e10,e11,e12,e13⟩,ez⟩:=fdef_cells hTz)))
   ·clear r0 r1 Z0 p3
    go_wp2_with fail
    go_meet
    exact ⟨w3.heap.size,rfl,heap_alloc_new _ _,hq3.alloc hq3.size _,hq3.size⟩
   ·clear r0 r1 Z0 p3
    go_wp2_with fail
    go_meet
    exact ⟨w2.heap.size,rfl,fset14_same hTz _ _ _ _ _ _ _ _ _ _ _ _ _ _,fset14_below hq3 (Nat.le_refl _) _ _ _ _ _ _ _ _ _ _ _ _ _ _,Nat.le_refl _⟩
  | false =>
   simp only [Bool.false_eq_true,if_false,tFun] at HX'
   have hfl:=fun W=>Tryz.rtokField2 (.int .i64 sk) (.string ⟨sl.toArray⟩) (.string ⟨#[102,117,110]⟩) (.int .i64 sp) W
   go_region_held3 (fun w'=>w'.cell? ⟨w.heap.size,0,none⟩=some (.slice a1 toks.length c1)∧w'.cell? ⟨w.heap.size,1,none⟩=some (.slice (some ⟨b,off,none⟩) nodes.length cap)∧w'.cell? ⟨bk,ok,none⟩=some (.int .i64 k0))
    (first|(with_reducible exact p3)|((try dsimp only);with_reducible exact And.intro ((fset14_cell w3 w2.heap.size _ _ _ _ _ _ _ _ _ _ _ _ _ _ hne0).trans p3.1) (And.intro ((fset14_cell w3 w2.heap.size _ _ _ _ _ _ _ _ _ _ _ _ _ _ hne0).trans p3.2.1) ((fset14_cell w3 w2.heap.size _ _ _ _ _ _ _ _ _ _ _ _ _ _ hne1).trans p3.2.2)))|(go_keep;done))
    (first|(go_at_call 38;refine (HX'.out _ ?_).mono ?_;(first|exact (Below.refl _ _).drew|exact ((Below.refl _ _).alloc (Nat.le_refl _) _).drew);rintro e w3 ⟨rfl,hq3,hb3⟩;have p3:=And.intro (cell_later hq3 r0) (And.intro (cell_later hq3 r1) (cell_later hq3 Z0));try (have hTz:=(hb3.block w2.heap.size (by simp)).trans (heap_alloc_new w2 (.cells #[.bool false,.slice none 0 0,.string ⟨#[]⟩,.int .i64 0,.slice none 0 0,.int .i64 0,.int .i64 0,.int .i64 0,.string ⟨#[]⟩,.string ⟨#[]⟩,.string ⟨#[]⟩,.bool false,.slice none 0 0,.int .i64 0] 80));obtain ⟨⟨e0,e1,e2,e3,e4,e5,e6⟩,⟨e7,e8,e9,e10,e11,e12,e13⟩,ez⟩:=fdef_cells hTz)))
   ·clear r0 r1 Z0 p3
    go_wp2_with fail
    go_meet
    exact ⟨w3.heap.size,rfl,heap_alloc_new _ _,hq3.alloc hq3.size _,hq3.size⟩
   ·clear r0 r1 Z0 p3
    go_wp2_with fail
    go_meet
    exact ⟨w2.heap.size,rfl,fset14_same hTz _ _ _ _ _ _ _ _ _ _ _ _ _ _,fset14_below hq3 (Nat.le_refl _) _ _ _ _ _ _ _ _ _ _ _ _ _ _,Nat.le_refl _⟩
 case rest =>
  obtain ⟨X,rfl,hX,hbc,hXl⟩:=hcut
  obtain ⟨w4,rfl⟩:∃ w4:World,w4=wc:=⟨_,rfl⟩
  have hX4:=(Array.getElem?_eq_some_iff.1 hX).1
  have G0:=(hbc.block w.heap.size (by omega)).trans g0
  have hb4:Below w.heap.size w w4:=hal2.trans (hbc.mono hz2)
  have hz4:=hbc.size
  have Z1':=cell_later hbc Z1
  obtain ⟨⟨d0,d1,d2,d3,d4,d5,d6⟩,⟨d7,d8,d9,d10,d11,d12,d13⟩,dz⟩:=fdef_cells hX
  clear Z0 Z1 r0 r1 HX' HTX
  go_upto_if 24 with fail
  go_cut [7] (fun v wc=>v=.int .i64 q∧wc=w4)
  case first =>
   cases pb
   all_goals
    have hq:=HQ.out
    simp only [if_true,Bool.false_eq_true,if_false] at hq
    subst hq
    go_wp2
    go_meet
    exact ⟨rfl,rfl⟩
  case rest =>
   obtain ⟨rfl,rfl⟩:=hcut
   obtain ⟨w4,rfl⟩:∃ w4:World,w4=wc:=⟨_,rfl⟩
   obtain ⟨r0,r1⟩:=cells2 G0
   have HK':=Lib.hid (fun W (hb:Below w4.heap.size w4 W)=>(HTK.out W (HT.out.below ((hb4.trans (hb.mono hb4.size)).mono hB)) (by have:=hb4.size;have:=hb.size;omega)).mono (R':=fun e w'=>e=.returned (.agg #[.int .i64 tk,.string ⟨tl.toArray⟩,.string ⟨tt.toArray⟩,.int .i64 tp])∧Below w4.heap.size w4 w'∧Below W.heap.size W w') fun e w' h=>⟨h.1,hb.trans (h.2.mono hb.size),h.2⟩)
   have HF':=Lib.hid (fun W (hb:Below w4.heap.size w4 W)=>HTY.out W (HT.out.below ((hb4.trans (hb.mono hb4.size)).mono hB)) (by have:=hb4.size;have:=hb.size;omega))
   clear d0 d1 d2 d3 d4 d5 d6 d7 d8 d9 d10 d11 d12 d13 dz HTK HTY
   have hnX0:w.heap.size≠X:=by omega
   have hnX1:bk≠X:=by omega
   go_upto_region 6 with fail
   go_region_held3 (fun w'=>w'.cell? ⟨w.heap.size,0,none⟩=some (.slice a1 toks.length c1)∧w'.cell? ⟨w.heap.size,1,none⟩=some (.slice (some ⟨b,off,none⟩) nodes.length cap)∧w'.cell? ⟨bk,ok+q,none⟩=some (.int .i64 k1))
    (first|(with_reducible exact p3)|((try dsimp only);with_reducible exact And.intro ((fset5_cell w6 X _ _ _ _ _ hnX0).trans p3.1) (And.intro ((fset5_cell w6 X _ _ _ _ _ hnX0).trans p3.2.1) ((fset5_cell w6 X _ _ _ _ _ hnX1).trans p3.2.2)))|(go_keep;done))
    (first|(go_at_call 38;refine (HK'.out _ (Below.refl _ _).drew).mono ?_;rintro e w5 ⟨rfl,hq5,hb5⟩;have p3:=And.intro (cell_later hq5 r0) (And.intro (cell_later hq5 r1) (cell_later hq5 Z1')))|(go_at_call 64;refine (HF'.out _ hq5).mono ?_;rintro e w6 ⟨ao,cc,rfl,hrow,hb6⟩;have hq6:=hq5.trans (hb6.mono hq5.size);have hX6:=(hq6.block X hX4).trans hX;obtain ⟨⟨e0,e1,e2,e3,e4,e5,e6⟩,_,ez⟩:=fdef_cells hX6;have p3:=And.intro (cell_later hq6 r0) (And.intro (cell_later hq6 r1) (cell_later hq6 Z1'))))
   have hX7:=fset5_same (show w6.heap[X]?=some (.cells #[.bool pb,.slice none 0 0,.string ⟨#[]⟩,.int .i64 0,.slice none 0 0,.int .i64 0,.int .i64 0,.int .i64 0,.string ⟨#[]⟩,.string ⟨#[]⟩,.string ⟨#[]⟩,.bool false,.slice none 0 0,.int .i64 0] 80 (0,0)) from hX6) (.string ⟨rs.name.toArray⟩) (.int .i64 rs.base) (.slice ao rs.clause.length cc) (.int .i64 rs.at_) (.int .i64 rs.bare)
   have hb8:=fset5_below (hbc.trans (hq6.mono hz4)) hXl (.string ⟨rs.name.toArray⟩) (.int .i64 rs.base) (.slice ao rs.clause.length cc) (.int .i64 rs.at_) (.int .i64 rs.bare)
   have hz5:=hq5.size
   have hrow8:=hrow.frame (fset5_alk (fun b=>w5.heap.size≤b) w6 X (.string ⟨rs.name.toArray⟩) (.int .i64 rs.base) (.slice ao rs.clause.length cc) (.int .i64 rs.at_) (.int .i64 rs.bare) fun k hk=>by omega)
   have hz8:w5.heap.size≤(World.setCell (World.setCell (World.setCell (World.setCell (World.setCell w6 ⟨X,2,none⟩ (.string ⟨rs.name.toArray⟩)) ⟨X,3,none⟩ (.int .i64 rs.base)) ⟨X,4,none⟩ (.slice ao rs.clause.length cc)) ⟨X,5,none⟩ (.int .i64 rs.at_)) ⟨X,6,none⟩ (.int .i64 rs.bare)).heap.size:=by simpa using hb6.size
   have hXw5:X<w5.heap.size:=by omega
   clear p3 e0 e1 e2 e3 e4 e5 e6 ez hX6 hq6 hq5 hb5 hb6 hrow r0 r1 Z1' HK' HF' hX hbc hb4 G0
   generalize World.setCell _ _ _=wl at hX7 hb8 hrow8 hz8 ⊢
   have hXwl:X<wl.heap.size:=by omega
   have hzl:=hb8.size
   have G0:=(hb8.block w.heap.size (by omega)).trans g0
   have G1:=(hb8.block (w.heap.size+1) hlt2).trans g1
   go_wp2
   go_loopw [8] (fun q' wr=>∃ (j n:Nat) (ap:Option Addr) (cp:Nat),j≤ks.length∧n=(parA toks u (d.its.take j)).length∧q'=.int .i64 j∧Alk (fun b=>b<wl.heap.size∧b≠X) wl wr∧wr.heap[X]?=some (.cells (fdCells pb (.slice ap n cp) rs.name rs.base (.slice ao rs.clause.length cc) rs.at_ rs.bare) 80 (0,0))∧OwnK (FK XR) wl.heap.size 76 wr (.slice ap n cp) (parA toks u (d.its.take j))∧Below w2.heap.size w2 wr) (fun q' _=>ks.length - (intOf q').toNat)
   case atStart=>exact ⟨0,0,none,0,Nat.zero_le _,by rw [List.take_zero,parA];rfl,rfl,Alk.refl _ _,hX7,by rw [List.take_zero,parA];exact OwnK.nil _ _ _ _,hb8⟩
   case round =>
    obtain ⟨j,n,ap,cp,hj,hn,rfl,halk,hXr,hrow,hbl⟩:=hrel
    have hszr:=halk.1
    have hr0:=(halk.2 w.heap.size ⟨by omega,by omega⟩ (by omega)).trans G0
    have hbwr:Below w.heap.size w wr:=hal2.trans (hbl.mono hz2)
    have hplj:=parA_len toks (d.its.take j) u
    rw [← hn,List.length_take] at hplj
    by_cases hjl:j<ks.length
    ·have hx:=(hbwr.cell (p:=⟨bk,ok+j,none⟩) (by show bk<_;omega)).trans (HKC.out j hjl)
     have hjp:j<(posL u d.its).length:=by have:=HLK.out;omega
     have hrep:=HRP.out j hjl hjp
     have hst:=HRD.out j hjp
     have hmem:=List.getElem_mem hjp
     have hend:=posL_end _ _ _ hmem
     generalize (posL u d.its)[j]=it at hrep hst hmem hend
     obtain ⟨it,v⟩:=it
     simp only at hrep hst hend
     generalize ks[j]=qk at hx hrep
     obtain ⟨m,xn,rfl,hnx,hkx⟩:=rep_kind hrep
     obtain ⟨hm,hnx'⟩:=List.getElem?_eq_some_iff.1 hnx
     obtain ⟨b',off',cap',kv',e',_,y0,_,y2,hky⟩:=HT.out.node hm
     obtain ⟨⟨rfl,rfl⟩,rfl⟩:(b=b'∧off=off')∧cap=cap':=by simpa using e'
     rw [hnx'] at y0 hky
     have y0':=(hbwr.cell (p:=⟨b,off+m * 3,none⟩) (by show b<_;omega)).trans y0
     have y2':=(hbwr.cell (p:=⟨b,off+m * 3+2,none⟩) (by show b<_;omega)).trans y2
     have hmI:(m:Int)<(nodes.length:Int):=by omega
     have hjI:(j:Int)<(ks.length:Int):=by omega
     obtain ⟨r0',r1'⟩:=cells2 hr0
     generalize parA toks u (d.its.take j)=acc at hn hrow hst
     have HN:=Lib.hid hn
     have HST:=Lib.hid hst
     clear hn hst y0 y2 e' hnx' hX7 hb8 G0 G1 g0 g1 Y2 hal2
     by_cases hpar:∃ t,it=.par t
     ·
      obtain ⟨tS,rfl⟩:=hpar
      have hk4:xn.kind=4:=hkx
      rw [hk4] at y0'
      have hrepP:Rep nodes m v (.node 4 (tS.parIts.map It.pt)):=by rw [← tS.parIts_pt];exact hrep
      obtain ⟨ks2,hn2,hk2⟩:=rep_node hrepP
      rw [hnx] at hn2
      obtain rfl:=Option.some.inj hn2
      rw [TyS.parIts,List.map_cons] at hk2
      obtain ⟨k3,ks',hke,hl3,_⟩:=repL_leaf (show RepL nodes ks2 v (.leaf :: _) from hk2)
      have hlk2:v+PT.lv (.node 4 (tS.parIts.map It.pt))≤toks.length:=by rw [← tS.parIts_pt];have:=HLV.out;simp only [It.pt] at hend;omega
      have hvt:v<toks.length:=by
       rw [PT.lv,TyS.parIts,List.map_cons,lvL] at hlk2
       simp only [It.pt,PT.lv] at hlk2
       omega
      simp only at hky
      obtain ⟨ak2,ck2,rfl,_,hkf2⟩:=hky.form
      obtain ⟨bk2,ok2,rfl,hbk2,hkc2⟩:=hkf2 (by rw [hke];simp)
      have hks2:0<ks2.length:=by rw [hke];simp
      have zz:=hkc2 0 hks2
      have hk30:ks2[0]=(k3:Int):=by simp [hke]
      rw [hk30,Nat.add_zero] at zz
      have zz':=(hbwr.cell (p:=⟨bk2,ok2,none⟩) (by show bk2<_;omega)).trans zz
      have hks2I:(0:Int)<(ks2.length:Int):=by omega
      have H1:=fun W (hb:Below wr.heap.size wr W)=>HLF.out k3 v W hl3 hvt (HT.out.below ((hbwr.trans (hb.mono hbwr.size)).mono hB)) (by have:=hbwr.size;have:=hb.size;omega)
      have H2:=fun W (hb:Below wr.heap.size wr W)=>HPAR.out tS v hmem m W hrep (HT.out.below ((hbwr.trans (hb.mono hbwr.size)).mono hB)) (by have:=hbwr.size;have:=hb.size;omega)
      have hst':parA toks u (d.its.take (j+1))=acc++[tS.parFF toks v]:=HST.out
      generalize tS.parFF toks v=f at H2 hst'
      unfold tokVal strV at H1 H2
      generalize peekF toks v=t3 at H1 H2
      obtain ⟨t3k,t3l,t3t,t3p⟩:=t3
      simp only at H1 H2
      have HC1:=Lib.hid H1
      have HC2:=Lib.hid H2
      have HS2:=Lib.hid hst'
      have HN1:=Lib.hid hks2I
      have hXwr:=(Array.getElem?_eq_some_iff.1 hXr).1
      clear H1 H2 hst' HST hk4 hkx hrep hrepP hmem hend hk2 hl3 hlk2 hvt hky hkf2 hkc2 zz hk30 hke hn2 hnx HPAR HLF HRP HRD HBD hks2I
      go_upto_region 10 with fail
      go_cut [50] (fun v wc=>v=.bool true∧Below wr.heap.size wr wc)
      case first =>
       clear hrow halk hbl hXr HC1 HC2
       go_quiet (fail)
       go_wp2
       go_meet
       exact ⟨rfl,below_drewN (Below.refl _ _) _⟩
      case rest =>
       obtain ⟨rfl,hbc⟩:=hcut
       obtain ⟨wx,rfl⟩:∃ wx:World,wx=wc:=⟨_,rfl⟩
       replace halk:=halk.trans (Alk.of hbc)
       replace hXr:=(hbc.block X hXwr).trans hXr
       replace hXwr:=Nat.lt_of_lt_of_le hXwr hbc.size
       replace hrow:=hrow.below hbc
       replace hbl:=hbl.trans (hbc.mono hbl.size)
       replace hx:=cell_later hbc hx
       replace y0':=cell_later hbc y0'
       replace y2':=cell_later hbc y2'
       replace zz':=cell_later hbc zz'
       replace r0':=cell_later hbc r0'
       replace r1':=cell_later hbc r1'
       replace hszr:=halk.1
       have HD1:=Lib.hid (HC1.out wx.drew hbc.drew)
       have HD2:=Lib.hid (fun W (hb:Below wx.heap.size wx W)=>HC2.out W (hbc.trans (hb.mono hbc.size)))
       clear HC1 HC2 hbc hr0 hbwr
       obtain ⟨lrow,h1,hown,hes⟩:=hrow
       rw [← HN.out] at hown
       have hlts:∀ b,some b=(Value.slice ap n cp).ownBlock→wl.heap.size≤b∧b<wx.heap.size:=fun b q=>hown.lt b q.symm
       have hneX:some X≠(Value.slice ap n cp).ownBlock:=fun q=>by have:=(hlts X q).1;omega
       have HL:=Lib.hid hlts
       have HES:=Lib.hid hes
       obtain ⟨⟨d0,d1,d2,d3,d4,d5,d6⟩,_,dz⟩:=fdef_cells hXr
       have hks2I:=HN1.out
       clear d0 d2 d3 d4 d5 d6 hlts
       go_wp2
       have hXz:X<wl.heap.size:=hXwl
       have hHX:∀ W,Alk (fun b=>b<wl.heap.size∧b≠X) wx W→(W.cell? ⟨w.heap.size,0,none⟩=some (.slice a1 toks.length c1)∧W.cell? ⟨w.heap.size,1,none⟩=some (.slice (some ⟨b,off,none⟩) nodes.length cap)∧W.cell? ⟨bk,ok+j,none⟩=some (.int .i64 m)∧W.cell? ⟨b,off+m * 3+2,none⟩=some (.slice (some ⟨bk2,ok2,none⟩) ks2.length ck2)∧W.cell? ⟨bk2,ok2,none⟩=some (.int .i64 k3)):=fun W hA =>
        ⟨(World.cell?_of_block (a:=⟨w.heap.size,0,none⟩) (hA.2 w.heap.size ⟨by omega,by omega⟩ (by omega))).trans r0',(World.cell?_of_block (a:=⟨w.heap.size,1,none⟩) (hA.2 w.heap.size ⟨by omega,by omega⟩ (by omega))).trans r1',(World.cell?_of_block (a:=⟨bk,ok+j,none⟩) (hA.2 bk ⟨by omega,by omega⟩ (by omega))).trans hx,(World.cell?_of_block (a:=⟨b,off+m * 3+2,none⟩) (hA.2 b ⟨by omega,by omega⟩ (by omega))).trans y2',(World.cell?_of_block (a:=⟨bk2,ok2,none⟩) (hA.2 bk2 ⟨by omega,by omega⟩ (by omega))).trans zz'⟩
       have HSX:=Lib.hid hHX
       have p3:=hHX wx.drew (Alk.drew _ wx)
       clear hHX
       refine wp_region_held_drew (S:=(fun W=>W.cell? ⟨w.heap.size,0,none⟩=some (.slice a1 toks.length c1)∧W.cell? ⟨w.heap.size,1,none⟩=some (.slice (some ⟨b,off,none⟩) nodes.length cap)∧W.cell? ⟨bk,ok+j,none⟩=some (.int .i64 m)∧W.cell? ⟨b,off+m * 3+2,none⟩=some (.slice (some ⟨bk2,ok2,none⟩) ks2.length ck2)∧W.cell? ⟨bk2,ok2,none⟩=some (.int .i64 k3))) (by kernel_rfl) p3 (fun hHeld=>?_)
       refine wpAnyH_take (i:=0) (oi:=⟨some 51,_,_,_,_,_⟩) (v:=?_) rfl (by kernel_rfl) (by kernel_rfl) (by kernel_rfl) (fun _ _ _ h=>h) (Or.inl ⟨by rfl,?_⟩) hHeld ?_
       rotate_left
       ·intro w hSw;(try dsimp only at hSw);go_simp;try (with_reducible rfl)
       simp only [Act.put,List.setIfInBounds_toArray,List.set_cons_zero,List.set_cons_succ]
       refine wpAnyH_take (i:=2) (oi:=⟨some 53,_,_,_,_,_⟩) (v:=?_) rfl (by kernel_rfl) (by kernel_rfl) (by kernel_rfl) (fun _ _ _ h=>h) (Or.inl ⟨by rfl,?_⟩) hHeld ?_
       rotate_left
       ·intro w hSw;(try dsimp only at hSw);go_simp;try (with_reducible rfl)
       simp only [Act.put,List.setIfInBounds_toArray,List.set_cons_zero,List.set_cons_succ]
       refine wpAnyH_take (i:=3) (oi:=⟨some 54,_,_,_,_,_⟩) (v:=?_) rfl (by kernel_rfl) (by kernel_rfl) (by kernel_rfl) (fun _ _ _ h=>h) (Or.inl ⟨by rfl,?_⟩) hHeld ?_
       rotate_left
       ·intro w hSw;(try dsimp only at hSw);go_simp;try (with_reducible rfl)
       simp only [Act.put,List.setIfInBounds_toArray,List.set_cons_zero,List.set_cons_succ]
       refine wpAnyH_take (i:=4) (oi:=⟨some 55,_,_,_,_,_⟩) (v:=?_) rfl (by kernel_rfl) (by kernel_rfl) (by kernel_rfl) (fun _ _ _ h=>h) (Or.inl ⟨by rfl,?_⟩) hHeld ?_
       rotate_left
       ·intro w hSw;(try dsimp only at hSw);go_simp;try (with_reducible rfl)
       simp only [Act.put,List.setIfInBounds_toArray,List.set_cons_zero,List.set_cons_succ]
       refine wpAnyH_take (i:=5) (oi:=⟨some 56,_,_,_,_,_⟩) (v:=?_) rfl (by kernel_rfl) (by kernel_rfl) (by kernel_rfl) (fun _ _ _ h=>h) (Or.inl ⟨by rfl,?_⟩) hHeld ?_
       rotate_left
       ·intro w hSw;(try dsimp only at hSw);go_simp;try (with_reducible rfl)
       simp only [Act.put,List.setIfInBounds_toArray,List.set_cons_zero,List.set_cons_succ]
       refine wpAnyH_take (i:=6) (oi:=⟨some 57,_,_,_,_,_⟩) (v:=?_) rfl (by kernel_rfl) (by kernel_rfl) (by kernel_rfl) (fun _ _ _ h=>h) (Or.inl ⟨by rfl,?_⟩) hHeld ?_
       rotate_left
       ·intro w hSw;(try dsimp only at hSw);go_simp;try (with_reducible rfl)
       simp only [Act.put,List.setIfInBounds_toArray,List.set_cons_zero,List.set_cons_succ]
       refine wpAnyH_take (i:=7) (oi:=⟨some 58,_,_,_,_,_⟩) (v:=?_) rfl (by kernel_rfl) (by kernel_rfl) (by kernel_rfl) (fun _ _ _ h=>h) (Or.inl ⟨by rfl,?_⟩) hHeld ?_
       rotate_left
       ·intro w hSw;(try dsimp only at hSw);go_simp;try (with_reducible rfl)
       simp only [Act.put,List.setIfInBounds_toArray,List.set_cons_zero,List.set_cons_succ]
       refine wpAnyH_take (i:=8) (oi:=⟨some 59,_,_,_,_,_⟩) (v:=?_) rfl (by kernel_rfl) (by kernel_rfl) (by kernel_rfl) (fun _ _ _ h=>h) (Or.inl ⟨by rfl,?_⟩) hHeld ?_
       rotate_left
       ·intro w hSw;(try dsimp only at hSw);go_simp;try (with_reducible rfl)
       simp only [Act.put,List.setIfInBounds_toArray,List.set_cons_zero,List.set_cons_succ]
       refine wpAnyH_take (i:=9) (oi:=⟨some 60,_,_,_,_,_⟩) (v:=?_) rfl (by kernel_rfl) (by kernel_rfl) (by kernel_rfl) (fun _ _ _ h=>h) (Or.inl ⟨by rfl,?_⟩) hHeld ?_
       rotate_left
       ·intro w hSw;(try dsimp only at hSw);go_simp;try (with_reducible rfl)
       simp only [Act.put,List.setIfInBounds_toArray,List.set_cons_zero,List.set_cons_succ]
       refine wpAnyH_take (i:=10) (oi:=⟨some 61,_,_,_,_,_⟩) (v:=?_) rfl (by kernel_rfl) (by kernel_rfl) (by kernel_rfl) (fun _ _ _ h=>h) (Or.inl ⟨by rfl,?_⟩) hHeld ?_
       rotate_left
       ·intro w hSw;(try dsimp only at hSw);go_simp;try (with_reducible rfl)
       simp only [Act.put,List.setIfInBounds_toArray,List.set_cons_zero,List.set_cons_succ]
       refine wpAnyH_take (i:=11) (oi:=⟨some 62,_,_,_,_,_⟩) (v:=?_) rfl (by kernel_rfl) (by kernel_rfl) (by kernel_rfl) (fun _ _ _ h=>h) (Or.inl ⟨by rfl,?_⟩) hHeld ?_
       rotate_left
       ·intro w hSw;(try dsimp only at hSw);go_simp;try (with_reducible rfl)
       simp only [Act.put,List.setIfInBounds_toArray,List.set_cons_zero,List.set_cons_succ]
       refine wpAnyH_take (i:=12) (oi:=⟨some 63,_,_,_,_,_⟩) (v:=?_) rfl (by kernel_rfl) (by kernel_rfl) (by kernel_rfl) (fun _ _ _ h=>h) (Or.inl ⟨by rfl,?_⟩) hHeld ?_
       rotate_left
       ·intro w hSw;(try dsimp only at hSw);go_simp;try (with_reducible rfl)
       simp only [Act.put,List.setIfInBounds_toArray,List.set_cons_zero,List.set_cons_succ]
       refine wpAnyH_take (i:=13) (oi:=⟨some 64,_,_,_,_,_⟩) (v:=?_) rfl (by kernel_rfl) (by kernel_rfl) (by kernel_rfl) (fun _ _ _ h=>h) (Or.inl ⟨by rfl,?_⟩) hHeld ?_
       rotate_left
       ·intro w hSw;(try dsimp only at hSw);go_simp;try (with_reducible rfl)
       simp only [Act.put,List.setIfInBounds_toArray,List.set_cons_zero,List.set_cons_succ]
       refine wpAnyH_take (i:=14) (oi:=⟨some 65,_,_,_,_,_⟩) (v:=?_) rfl (by kernel_rfl) (by kernel_rfl) (by kernel_rfl) (fun _ _ _ h=>h) (Or.inl ⟨by rfl,?_⟩) hHeld ?_
       rotate_left
       ·intro w hSw;(try dsimp only at hSw);go_simp;try (with_reducible rfl)
       simp only [Act.put,List.setIfInBounds_toArray,List.set_cons_zero,List.set_cons_succ]
       refine wpAnyH_take (i:=15) (oi:=⟨some 66,_,_,_,_,_⟩) (v:=?_) rfl (by kernel_rfl) (by kernel_rfl) (by kernel_rfl) (fun _ _ _ h=>h) (Or.inl ⟨by rfl,?_⟩) hHeld ?_
       rotate_left
       ·intro w hSw;(try dsimp only at hSw);go_simp;try (with_reducible rfl)
       simp only [Act.put,List.setIfInBounds_toArray,List.set_cons_zero,List.set_cons_succ]
       refine wpAnyH_take (i:=16) (oi:=⟨some 67,_,_,_,_,_⟩) (v:=?_) rfl (by kernel_rfl) (by kernel_rfl) (by kernel_rfl) (fun _ _ _ h=>h) (Or.inl ⟨by rfl,?_⟩) hHeld ?_
       rotate_left
       ·intro w hSw;(try dsimp only at hSw);go_simp;try (with_reducible rfl)
       simp only [Act.put,List.setIfInBounds_toArray,List.set_cons_zero,List.set_cons_succ]
       refine wpAnyH_take (i:=17) (oi:=⟨some 68,_,_,_,_,_⟩) (v:=?_) rfl (by kernel_rfl) (by kernel_rfl) (by kernel_rfl) (fun _ _ _ h=>h) (Or.inl ⟨by rfl,?_⟩) hHeld ?_
       rotate_left
       ·intro w hSw;(try dsimp only at hSw);go_simp;try (with_reducible rfl)
       simp only [Act.put,List.setIfInBounds_toArray,List.set_cons_zero,List.set_cons_succ]
       refine wpAnyH_take (i:=18) (oi:=⟨some 69,_,_,_,_,_⟩) (v:=?_) rfl (by kernel_rfl) (by kernel_rfl) (by kernel_rfl) (fun _ _ _ h=>h) (Or.inl ⟨by rfl,?_⟩) hHeld ?_
       rotate_left
       ·intro w hSw;(try dsimp only at hSw);go_simp;try (with_reducible rfl)
       simp only [Act.put,List.setIfInBounds_toArray,List.set_cons_zero,List.set_cons_succ]
       refine wpAnyH_ready (rs:=[1,19]) (by kernel_rfl) (by simp) (AllReadyH.cons (o:=⟨some 52,_,_,_,_,_⟩) rfl (fun K hK=>?_) (AllReadyH.cons (o:=⟨some 70,_,_,_,_,_⟩) rfl (fun K hK=>?_) AllReadyH.nil))
       go_simp;refine hK.out _ _ (hHeld) (fun hHeld=>?_);clear hK K;refine wpAnyH_ready (rs:=[19]) (by kernel_rfl) (by simp) (AllReadyH.cons (o:=⟨some 70,_,_,_,_,_⟩) rfl (fun K hK=>?_) AllReadyH.nil)
       all_goals
        refine step_call rfl 38 _ _ rfl HD1.out (by rfl) (entL _ _) ?_;rintro e W1 ⟨rfl,hb1⟩;refine ⟨_,rfl,?_⟩;have hq1:Below wx.heap.size wx W1:=(Below.refl wx.heap.size wx).drew.trans hb1;have hbe1:=(hq1.block X hXwr).trans hXr;have r12:=(fdef_cells hbe1).1.2.1;have p3:=HSX.out _ (Alk.of hq1)
        refine hK.out _ _ (p3) (fun hHeld=>?_);clear hK K
       rotate_left 1;refine wpAnyH_ready (rs:=[1,20]) (by kernel_rfl) (by simp) (AllReadyH.cons (o:=⟨some 52,_,_,_,_,_⟩) rfl (fun K hK=>?_) (AllReadyH.cons (o:=⟨some 71,_,_,_,_,_⟩) rfl (fun K hK=>?_) AllReadyH.nil));rotate_right 1
       rotate_left 1;go_simp;refine hK.out _ _ (hHeld) (fun hHeld=>?_);clear hK K;refine wpAnyH_ready (rs:=[20]) (by kernel_rfl) (by simp) (AllReadyH.cons (o:=⟨some 71,_,_,_,_,_⟩) rfl (fun K hK=>?_) AllReadyH.nil);rotate_right 1
       refine wpAnyH_ready (rs:=[20]) (by kernel_rfl) (by simp) (AllReadyH.cons (o:=⟨some 71,_,_,_,_,_⟩) rfl (fun K hK=>?_) AllReadyH.nil)
       all_goals
        refine step_call rfl 64 _ _ rfl (HD2.out W1 hq1) (by rfl) (entT _ _) ?_;rintro e W2 ⟨ao2,cc2,rfl,hxe,hbT⟩;refine ⟨_,rfl,?_⟩;have hq2:=hq1.trans (hbT.mono hq1.size);have hb2:=hb1.trans (hbT.mono hb1.size);have hbe2:=(hb2.block X hXwr).trans hXr;have r62:=(fdef_cells hbe2).1.2.1;have r63:=fun o=>Lib.cell?_alloc_some o r62;have al2:Alk (fun b=>b<wl.heap.size∧b≠X) wx W2:=Alk.of hq2;have p3:=HSX.out _ al2;have p3a:=fun o=>HSX.out (W2.alloc o) (al2.trans (Alk.ofB (below_new W2 o) fun b hb=>by have:=hq2.size;omega))
        refine hK.out _ _ (p3) (fun hHeld=>?_);clear hK K
       rotate_left 2;refine wpAnyH_ready (rs:=[1,21]) (by kernel_rfl) (by simp) (AllReadyH.cons (o:=⟨some 52,_,_,_,_,_⟩) rfl (fun K hK=>?_) (AllReadyH.cons (o:=⟨some 72,_,_,_,_,_⟩) rfl (fun K hK=>?_) AllReadyH.nil));rotate_right 2
       rotate_left 2;go_simp;refine hK.out _ _ (hHeld) (fun hHeld=>?_);clear hK K;refine wpAnyH_ready (rs:=[21]) (by kernel_rfl) (by simp) (AllReadyH.cons (o:=⟨some 72,_,_,_,_,_⟩) rfl (fun K hK=>?_) AllReadyH.nil);rotate_right 2
       refine wpAnyH_ready (rs:=[21]) (by kernel_rfl) (by simp) (AllReadyH.cons (o:=⟨some 72,_,_,_,_,_⟩) rfl (fun K hK=>?_) AllReadyH.nil)
       rotate_left 1;refine wpAnyH_ready (rs:=[21]) (by kernel_rfl) (by simp) (AllReadyH.cons (o:=⟨some 72,_,_,_,_,_⟩) rfl (fun K hK=>?_) AllReadyH.nil);rotate_right 1
       all_goals
        go_simp
        refine hK.out _ _ (p3a _) (fun hHeld=>?_);clear hK K
       rotate_left 3;refine wpAnyH_ready (rs:=[1]) (by kernel_rfl) (by simp) (AllReadyH.cons (o:=⟨some 52,_,_,_,_,_⟩) rfl (fun K hK=>?_) AllReadyH.nil);go_simp;refine hK.out _ _ (hHeld) (fun hHeld=>?_);clear hK K;rotate_right 3
       all_goals refine wpAnyH_ready (rs:=[22]) (by kernel_rfl) (by simp) (AllReadyH.cons (o:=⟨some 73,_,_,_,_,_⟩) rfl (fun K hK=>?_) AllReadyH.nil)
       all_goals
        refine step_append_lies _ (by rfl) _ _ _ (by rfl) wl.heap.size 76 ip _ 5 64 Tryz.underlying73 hip1 hip2 hip3 hip4 rfl (by omega) (.slice ap n cp) n _ (by rfl) ((own_below (owns_drew hown) hb2).alloc _) ⟨W2.heap.size,0,none⟩ 1 1 [.string ⟨f.name.toArray⟩,.int .i64 f.base,.slice ao2 f.clause.length cc2,.int .i64 f.at_,.int .i64 f.bare] (by rfl) (by rfl) (World.news_of_block (cs:=#[.string ⟨f.name.toArray⟩,.int .i64 f.base,.slice ao2 f.clause.length cc2,.int .i64 f.at_,.int .i64 f.bare]) (t:=76) (fr:=(0,0)) (heap_alloc_new W2 _)) (by simp [Value.oneCell']) (by omega) (by unfold maxLen;omega) (by omega) (by have:=hb2.size;simp at this ⊢;omega) (W2.heap.size+1) (by simp) ?_;intro gg cap5 w5' hown5 hgrow5 hat5 hlt5;have hbe5:=(hgrow5.block X (by have:=hb2.size;simp at this ⊢;omega) hneX).trans ((Lib.alloc_old W2 _ X (by have:=hb2.size;simp at this;omega)).trans hbe2);have r65:=(fdef_cells hbe5).1.2.1;have z65:=(fdef_cells hbe5).2.2 1;have al5:=(al2.trans (Alk.ofB (below_new W2 _) fun b hb=>by have:=hq2.size;omega)).trans (Alk.grown hgrow5 fun b hb q=>by have:=(HL.out b q).1;omega);have p3:=HSX.out _ al5;have p3a:=fun v=>HSX.out (w5'.setCell ⟨X,1,none⟩ v) (al5.trans (Alk.set v fun b hb=>hb.2))
        refine hK.out _ _ (p3) (fun hHeld=>?_);clear hK K
       all_goals
        refine wpAnyH_take (i:=23) (oi:=⟨some 74,_,_,_,_,_⟩) (v:=?_) rfl (by kernel_rfl) (by kernel_rfl) (by kernel_rfl) (fun _ _ _ h=>h) (Or.inl ⟨by rfl,?_⟩) hHeld ?_;rotate_left
        ·intro w hSw;(try dsimp only at hSw);go_simp;try (with_reducible rfl)
        simp only [Act.put,List.setIfInBounds_toArray,List.set_cons_zero,List.set_cons_succ]
       all_goals refine wpAnyH_ready (rs:=[24]) (by kernel_rfl) (by simp) (AllReadyH.cons (o:=⟨none,_,_,_,_,_⟩) rfl (fun K hK=>?_) AllReadyH.nil)
       all_goals
        go_simp
        refine hK.out _ _ (p3a _) (fun hHeld=>?_);clear hK K
       all_goals refine wpAnyH_done (by kernel_rfl) ?_ _
       all_goals
        obtain ⟨q1,q2,q3⟩:=OwnQ.round (K:=FK XR) (Q:=fun b=>wl.heap.size≤b) (wr:=wx.drew) (kv:=.slice ap n cp) (kv5:=.slice (some ⟨gg,0,none⟩) (n+1) cap5) (acc:=acc) (a:=f) (x:=.slice ao2 f.clause.length cc2) (l:=lrow) (show Alk _ wl wx.drew from halk) hXwl (by omega) h1 (by rw [← HN.out];exact hown) (fun p hp=>(FK XR).frame (HES.out p hp) (Alk.drew _ wx)) ((FK XR).imp (P:=fun b=>W1.heap.size≤b) hxe fun b hb _=>⟨by have:=hq1.size;omega,fun q=>by have:=(HL.out b q).2;have:=hq1.size;omega⟩) hb2 (by rw [← HN.out];exact hown5) hgrow5 rfl hat5 1 (.slice (some ⟨gg,0,none⟩) (n+1) cap5)
        have hbe6:(w5'.setCell ⟨X,1,none⟩ (.slice (some ⟨gg,0,none⟩) (n+1) cap5)).heap[X]?=some (.cells (fdCells pb (.slice (some ⟨gg,0,none⟩) (n+1) cap5) rs.name rs.base (.slice ao rs.clause.length cc) rs.at_ rs.bare) 80 (0,0)):=heap_setCell_same w5' X 1 _ _ _ hbe5
        have hbl6:=q3 w2.heap.size w2 hXl hbl.drew
        clear hgrow5 hown5 hat5 hbe5 r65 z65 hbe2 r62 r63 hxe hb2 hes hown halk hXr d1 dz hx y0' y2' zz' r0' r1' hbl h1 p3 p3a al5 al2 hq2 hbT hq1 hb1 hbe1 r12
        generalize w5'.setCell _ _=w6' at q1 q2 hbe6 hbl6 ⊢
        go_wp2
        go_roundw
        case rel =>
         refine ⟨j+1,n+1,some ⟨gg,0,none⟩,cap5,by omega,?_⟩
         rw [HS2.out]
         exact ⟨by rw [List.length_append,← HN.out];rfl,by go_num,q2,hbe6,q1,hbl6⟩
        case measure=>simp [intOf];omega
     ·have hne:=it.kind_nopar (fun t e=>hpar ⟨t,e⟩)
      have HPO:=Lib.hid (it.par_nopar toks v (fun t e=>hpar ⟨t,e⟩))
      rw [← hkx] at hne
      generalize xn.kind=kx at y0' hne
      have t4:(kx == 4)=false:=by rw [← Bool.not_eq_true,beq_iff_eq];exact hne
      clear hne hpar hkx hrep hmem hend hky y2'
      go_upto_region 10 with fail
      go_quiet (fail)
      go_wp2
      go_roundw
      case rel =>
       have e1:=HST.out
       rw [HPO.out,List.append_nil] at e1
       refine ⟨j+1,n,ap,cp,by omega,?_⟩
       rw [e1]
       exact ⟨HN.out,by go_num,⟨halk.1,halk.2⟩,hXr,hrow.below (below_drewN (Below.refl _ _) _),below_drewN hbl _⟩
      case measure=>simp [intOf];omega
    ·
     obtain rfl:j=ks.length:=by omega
     have hti:d.its.take ks.length=d.its:=List.take_of_length_le (by have:=HIT.out;omega)
     rw [hti,← HPS.out] at hn hrow
     have hjI:decide ((ks.length:Int)<(ks.length:Int))=false:=decide_eq_false (by omega)
     have HN:=Lib.hid hn
     have hXwr:=(Array.getElem?_eq_some_iff.1 hXr).1
     have G1r:=(halk.2 (w.heap.size+1) ⟨by omega,by omega⟩ (by omega)).trans G1
     have hclr:RowK (EK XR) (fun b=>w5.heap.size≤b∧b<wl.heap.size) wr (.slice ao rs.clause.length cc) rs.clause:=(hrow8.imp (Q:=fun b=>(w5.heap.size≤b∧b<wl.heap.size)∧b<wl.heap.size∧b≠X) fun b hb hl=>⟨⟨hb,hl⟩,hl,by omega⟩).frame ⟨halk.1,fun b hb hl=>halk.2 b hb.2 hl⟩ |>.imp fun b hb _=>hb.1
     have hpr:=hrow.row
     have hz0:wr.cell? ⟨bk,ok+(ks.length - 2),none⟩=some (.int .i64 k2):=(cell_later hbl Z2)
     have HC:=Lib.hid (HBD.out wr.drew (HT.out.below (hbwr.mono hB).drew) (Nat.le_trans hB hbwr.size))
     obtain ⟨r0',r1'⟩:=cells2 hr0
     clear hn hti hrow8 hX7 hb8 hrow halk G0 G1 g0 g1 Y2 HBD HPAR HRD HRP HKC Z2
     have hwr2:IntKind.i64.wrap ((ks.length:Int) - 2)=(ks.length:Int) - 2:=IntWalk.i64_in _ (by omega)
     have hw0:(0:Int)≤(ks.length:Int) - 2:=by omega
     have hw2:(2:Int)≤(ks.length:Int):=by omega
     have hw3:(ks.length:Int) - 2<(ks.length:Int):=by omega
     have hw4:((ks.length:Int) - 2).toNat=ks.length - 2:=by omega
     go_wp2
     go_region_held3 (fun w'=>w'.cell? ⟨w.heap.size,0,none⟩=some (.slice a1 toks.length c1)∧w'.cell? ⟨w.heap.size,1,none⟩=some (.slice (some ⟨b,off,none⟩) nodes.length cap)∧w'.cell? ⟨bk,ok+(ks.length - 2),none⟩=some (.int .i64 k2))
      (first|(with_reducible exact p3)|((try dsimp only);with_reducible exact And.intro ((fset7_cell w9 X _ _ _ _ _ _ _ hnX0).trans p3.1) (And.intro ((fset7_cell w9 X _ _ _ _ _ _ _ hnX0).trans p3.2.1) ((fset7_cell w9 X _ _ _ _ _ _ _ hnX1).trans p3.2.2)))|(go_keep;done))
      ((go_at_call 65;refine HC.out.mono ?_;rintro e w9 ⟨ae,ce,rfl,hx9,hb9⟩;have hq9:Below wr.heap.size wr w9:=(Below.refl wr.heap.size wr).drew.trans hb9;have p3:=And.intro (cell_later hq9 r0') (And.intro (cell_later hq9 r1') (cell_later hq9 hz0));have hX9:=(hq9.block X hXwr).trans hXr;obtain ⟨⟨e0,e1,e2,e3,e4,e5,e6⟩,⟨e7,e8,e9,e10,e11,e12,e13⟩,ez⟩:=fdef_cells hX9))
     obtain rfl:=HN.out
     have hle:w.heap.size≤X:=by omega
     have hR1:=(Array.getElem?_eq_some_iff.1 G1r).1
     have hX10:=fset7_same (show w9.heap[X]?=some (.cells #[.bool pb,.slice ap pars.length cp,.string ⟨rs.name.toArray⟩,.int .i64 rs.base,.slice ao rs.clause.length cc,.int .i64 rs.at_,.int .i64 rs.bare,.int .i64 0,.string ⟨#[]⟩,.string ⟨#[]⟩,.string ⟨#[]⟩,.bool false,.slice none 0 0,.int .i64 0] 80 (0,0)) from hX9) (.int .i64 x.op) (.string ⟨x.name.toArray⟩) (.string ⟨x.module.toArray⟩) (.string ⟨x.txt.toArray⟩) (.bool x.yes) (.slice ae x.kids.length ce) (.int .i64 x.at_)
     have hb10:=fset7_below (hbwr.trans (hq9.mono hbwr.size)) hle (.int .i64 x.op) (.string ⟨x.name.toArray⟩) (.string ⟨x.module.toArray⟩) (.string ⟨x.txt.toArray⟩) (.bool x.yes) (.slice ae x.kids.length ce) (.int .i64 x.at_)
     have hA:=fun P hP=>fset7_alk P w9 X (.int .i64 x.op) (.string ⟨x.name.toArray⟩) (.string ⟨x.module.toArray⟩) (.string ⟨x.txt.toArray⟩) (.bool x.yes) (.slice ae x.kids.length ce) (.int .i64 x.at_) hP
     have G10:=((hA (fun k=>k≠X) (fun k hk=>hk)).2 (w.heap.size+1) (by omega) (Nat.lt_of_lt_of_le hR1 hq9.size)).trans ((hq9.block _ hR1).trans G1r)
     have hp10:=(hpr.frame (Alk.of hq9)).frame (hA (fun b=>wl.heap.size≤b) fun k hk=>by omega)
     have hc10:=(hclr.frame (Alk.of hq9)).frame (hA (fun b=>w5.heap.size≤b∧b<wl.heap.size) fun k hk=>by omega)
     have hx10:=hx9.frame (hA (fun b=>wr.drew.heap.size≤b) fun k hk=>by have:wr.drew.heap.size=wr.heap.size:=rfl;omega)
     clear p3 e0 e1 e2 e3 e4 e5 e6 e7 e8 e9 e10 e11 e12 e13 ez hA hX9 hx9 hq9 hb9 hwr2 hw0 hw2 hw3 hw4 r0' r1' hz0 HC hXr hr0 G1r hpr hclr HN
     generalize (World.setCell (World.setCell (World.setCell (World.setCell (World.setCell (World.setCell (World.setCell _ _ _) _ _) _ _) _ _) _ _) _ _) _ _)=w10 at hX10 hb10 G10 hp10 hc10 hx10 ⊢
     obtain ⟨⟨d0,d1,d2,d3,d4,d5,d6⟩,⟨d7,d8,d9,d10,d11,d12,d13⟩,dz⟩:=fdef_cells hX10
     obtain ⟨⟨e0,e1,e2,e3,e4,e5,e6⟩,⟨e7,e8,e9,e10,e11,e12,e13⟩,ez⟩:=fdef_cells G10
     go_wp2
     refine bodyPost_ret (v:=.agg #[.bool pb,.slice ap pars.length cp,.string ⟨rs.name.toArray⟩,.int .i64 rs.base,.slice ao rs.clause.length cc,.int .i64 rs.at_,.int .i64 rs.bare,.int .i64 x.op,.string ⟨x.name.toArray⟩,.string ⟨x.module.toArray⟩,.string ⟨x.txt.toArray⟩,.bool x.yes,.slice ae x.kids.length ce,.int .i64 x.at_]) (by simp [results,Tryz.results39,go_sem,e0,e1,e2,e3,e4,e5,e6,e7,e8,e9,e10,e11,e12,e13]) rfl ⟨ap,cp,ao,cc,ae,ce,rfl,⟨?_,?_,?_⟩,?_⟩
     ·exact (hp10.frame (fset14_alk _ _ _ _ _ _ _ _ _ _ _ _ _ _ _ _ _ fun k hk=>by omega)).imp fun b hb _=>by omega
     ·exact (hc10.frame (fset14_alk _ _ _ _ _ _ _ _ _ _ _ _ _ _ _ _ _ fun k hk=>by omega)).imp fun b hb _=>by omega
     ·exact (hx10.frame (fset14_alk _ _ _ _ _ _ _ _ _ _ _ _ _ _ _ _ _ fun k hk=>by have:wr.drew.heap.size=wr.heap.size:=rfl;omega)).imp fun b hb _=>by have:wr.drew.heap.size=wr.heap.size:=rfl;omega
     ·exact fset14_below hb10 (by omega) _ _ _ _ _ _ _ _ _ _ _ _ _ _
end Go.Proofs.YtemkhbmkaalgdaaGreatDoor
