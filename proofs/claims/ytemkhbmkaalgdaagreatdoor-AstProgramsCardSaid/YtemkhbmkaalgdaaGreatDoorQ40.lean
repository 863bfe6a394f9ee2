/- Walks and plain laws: EraseW, AsP2, EraLaw, RatsW. -/
import Derived.Test.YtemkhbmkaalgdaaGreatDoorQ39
set_option maxHeartbeats 16000000
set_option maxRecDepth 100000
namespace Go.Proofs.YtemkhbmkaalgdaaGreatDoor
open Go.RowKit Go
def ErPost (q:PP)(w:World)(e:Ending)(w':World):Prop :=
 ∃ ai ci ad cd,e=.returned (.agg #[.slice ai q.imports.length ci,.slice ad q.defs.length cd])∧(ai=none→ci=0)∧PAtA (fun b=>b<w'.heap.size) w' (.slice ai q.imports.length ci) (.slice ad q.defs.length cd) q∧Below w.heap.size w w'
def ErCut (l:List (List UInt8 × Nat))(w2:World)(v:Value)(wc:World):Prop :=
 ∃ (O:Nat) (ai:Option Addr) (ci:Nat),v=.pointer (some ⟨O,0,none⟩)∧wc.heap[O]?=some (.cells #[.slice ai l.length ci,.slice none 0 0] 31 (0,0))∧RowK IA (fun b=>w2.heap.size≤b∧b≠O) wc (.slice ai l.length ci) l∧(ai=none→ci=0)∧w2.heap.size≤O∧Below w2.heap.size w2 wc
theorem ErCut.mk {l:List (List UInt8 × Nat)}{w2 w3:World}{v:Value}{k:List ((List UInt8 × Nat) × Unit)}{e:Nat}(hk:k.map Prod.fst=l)(ho:w3.ownsRow w2.heap.size e 2 v l.length (IA.flat k))(hb:Below w2.heap.size w2 w3):ErCut l w2 (.pointer (some ⟨w3.heap.size,0,none⟩)) (w3.alloc (.cells #[v,.slice none 0 0] 31)):=by
 have hO:OwnK IA w2.heap.size e w3 v l:=⟨k,hk,ho,fun p hp=>trivial⟩
 obtain ⟨ao,cap,rfl⟩:=hO.slice
 refine ⟨w3.heap.size,ao,cap,rfl,heap_alloc_new _ _,?_,fun q=>hO.nilc _ _ (by rw [q]),hb.size,hb.alloc hb.size _⟩
 exact (hO.row.imp (Q:=fun b=>w2.heap.size≤b∧b≠w3.heap.size) fun b hb hl=>⟨hb,by omega⟩).frame ⟨by simp,fun b _ hl=>Lib.alloc_old _ _ _ hl⟩
theorem FK_nil {S:Shape}(f:FF)(P:Nat→Prop)(w:World):(FK S).inn P w f.erase (.slice none 0 0):=RowK.nil _ _ _
theorem erase_any (p:PP)(hi16:p.imports.length≤16)(hd64:p.defs.length≤64)(hp8:∀ d∈p.defs,d.params.length≤8)(B:Nat)(ai:Option Addr)(ci:Nat)(ad:Option Addr)(cd:Nat)(w:World)
  (h:PAtA (fun b=>b<B) w (.slice ai p.imports.length ci) (.slice ad p.defs.length cd) p) (hB:B≤w.heap.size) (hnil:ai=none→ci=0) :
  Calls Tryz.prog 14 #[.agg #[.slice ai p.imports.length ci,.slice ad p.defs.length cd]] w (ErPost p.erase w):=by
 obtain ⟨ii,hii1,hii2,hii3,hii4⟩:=info_parts Tryz.infoImport
 obtain ⟨id,hid1,hid2,hid3,hid4⟩:=info_parts Tryz.infoDef
 obtain ⟨ip,hip1,hip2,hip3,hip4⟩:=info_parts Tryz.infoParam
 obtain ⟨hir,hdr⟩:=h
 have hbb:=(below_new w (.cells #[.slice ai p.imports.length ci,.slice ad p.defs.length cd] 31)).alloc (by simp) (.cells #[.slice none 0 0,.slice none 0 0] 31)
 have g0:=(Lib.alloc_old _ (.cells #[.slice none 0 0,.slice none 0 0] 31) w.heap.size (by simp)).trans (heap_alloc_new w (.cells #[.slice ai p.imports.length ci,.slice ad p.defs.length cd] 31))
 have g1:=heap_alloc_new (w.alloc (.cells #[.slice ai p.imports.length ci,.slice ad p.defs.length cd] 31)) (.cells #[.slice none 0 0,.slice none 0 0] 31)
 rw [World.size_alloc] at g1
 have HP8:=Lib.hid hp8
 obtain ⟨ao',cc',hv,hcap,hform⟩:=hdr.form
 simp only [Value.slice.injEq] at hv
 obtain ⟨rfl,-,rfl⟩:=hv
 have HF:=Lib.hid hform
 clear hp8 hform hdr
 obtain ⟨c0,c1⟩:=prog_cells g0
 go_enter Tryz.func14,Tryz.ntmps14
 go_upto_region 1 with fail
 generalize (w.alloc _).alloc _=w2 at hbb g0 g1 c0 c1 ⊢
 have hz2:=hbb.size
 have hlt2:w.heap.size+1<w2.heap.size:=(Array.getElem?_eq_some_iff.1 g1).1
 go_cut [3] (fun v wc=>ErCut p.imports w2 v wc)
 case first =>
  obtain ⟨l,hl,⟨ao,cap,hv,hn,hlen,hc⟩,_⟩:=hir.frame (Alk.ofB hbb fun b hb=>Nat.lt_of_lt_of_le hb hB)
  simp only [Value.slice.injEq] at hv
  obtain ⟨rfl,-,rfl⟩:=hv
  have HHL:=Lib.hid hl
  clear hl
  cases ai with
  | none =>
   obtain rfl:=hnil rfl
   have h0:p.imports.length=0:=by
    rcases Nat.eq_zero_or_pos p.imports.length with q|q
    ·exact q
    ·obtain ⟨_,_,e,_⟩:=hc q
     cases e
   obtain ⟨imps,defs⟩:=p
   obtain rfl:imps=[]:=List.length_eq_zero_iff.1 h0
   clear hc hlen hn h0
   go_wp2_with (at_builtin;refine wpList_append_own_none rfl _ _ 28 rfl w2.heap.size 91 ii 2 Tryz.underlying28 hii1 (.slice none 0 0) 0 [] rfl (World.ownsRow_nil _ _ _ _) rfl ?_)
   go_meet
   exact ErCut.mk (e:=91) (k:=[]) rfl (World.ownsRow_nil _ _ _ _) (Below.refl _ _)
  | some ad0 =>
   have hnews:∀ j u,(IA.flat l)[j]?=some u→w2.cell? (ad0.add j)=some u:=fun j u hj=>by
    obtain ⟨h1,h2⟩:=List.getElem?_eq_some_iff.1 hj
    have hl2:(IA.flat l).length=p.imports.length * 2:=hlen
    obtain ⟨b,off,e,_,_,h3⟩:=hc (by omega)
    have h4:=h3 j h1
    rw [h2] at h4
    obtain rfl:=Option.some.inj e
    have ea:(⟨b,off,none⟩:Addr).add j=⟨b,off+j,none⟩:=by unfold Addr.add;split <;> simp_all
    rw [ea]
    exact h4
   have HNW:=Lib.hid hnews
   clear hc hnews
   go_wp2_with (at_builtin;refine wpList_append_own _ rfl _ _ 28 rfl w2.heap.size 91 ii _ 2 24 Tryz.underlying28 hii1 hii2 hii3 hii4 rfl (by decide) (.slice none 0 0) 0 [] rfl (World.ownsRow_nil _ _ _ _) ad0 p.imports.length ci (IA.flat l) rfl ?c1 HNW.out ?c2 ?c3 ?c4 (Nat.le_refl _) ?_)
   case c1=>exact hlen
   case c2 =>
    intro u hu
    simp only [RK.flat,IA,List.mem_flatMap,List.mem_cons,List.not_mem_nil,or_false] at hu
    obtain ⟨q,_,rfl|rfl⟩:=hu <;> rfl
   case c3=>unfold maxLen;omega
   case c4=>omega
   intro v' w3 hown hgrow _
   obtain ⟨ao2,cap2,rfl⟩:=(show OwnK IA w2.heap.size 91 w3 v' p.imports from ⟨l,HHL.out,hown,fun _ _=>trivial⟩).slice
   have HER:=Lib.hid (ErCut.mk HHL.out hown ((Below.refl _ _).grown hgrow (Nat.le_refl _) (fun k q=>by cases q)))
   clear hown hgrow hlen
   go_wp2
   go_meet
   exact HER.out
 case rest =>
  obtain ⟨O,ai',ci',rfl,hO,hir3,hnil3,hOl,hbc⟩:=hcut
  obtain ⟨wl,rfl⟩:∃ wl:World,wl=wc:=⟨_,rfl⟩
  have hzl:=hbc.size
  have hOw:=(Array.getElem?_eq_some_iff.1 hO).1
  have H0:=(hbc.block w.heap.size (by omega)).trans g0
  have H1:=(hbc.block (w.heap.size+1) (by omega)).trans g1
  have hbl0:=hbb.trans (hbc.mono hz2)
  have HNL:=Lib.hid hnil3
  have HIR:=Lib.hid hir3
  obtain ⟨c0,c1⟩:=prog_cells H0
  clear hbb g0 g1 hbc hnil3 hir hnil hir3
  go_upto_region 3 with fail
  go_loopw [16] (fun q wr=>∃ (j:Nat) (ad':Option Addr) (cd':Nat),j≤p.defs.length∧q=.int .i64 j∧Alk (fun b=>b<wl.heap.size∧b≠O) wl wr∧wr.heap[O]?=some (.cells #[.slice ai' p.imports.length ci',.slice ad' j cd'] 31 (0,0))∧OwnQ DA (fun b=>b<B∨wl.heap.size≤b) wl.heap.size 54 wr (.slice ad' j cd') ((p.defs.take j).map DD.erase)∧Below w.heap.size w wr) (fun q _=>p.defs.length - (intOf q).toNat)
  case atStart=>exact ⟨0,none,0,Nat.zero_le _,rfl,Alk.refl _ _,hO,by rw [List.take_zero];exact OwnQ.nil _ _ _ _ _,hbl0⟩
  case round =>
   obtain ⟨j,ad',cd',hj,rfl,halk,hOr,hrow,hbl⟩:=hrel
   have hszr:=halk.1
   by_cases hlt:j<p.defs.length
   ·
    obtain ⟨wo,rfl⟩:∃ wo:World,wo=wr:=⟨_,rfl⟩
    obtain ⟨b,off,rfl,hbB,hbw,hkid⟩:=HF.out (by omega)
    obtain ⟨⟨pv,cv,bm,bk⟩,⟨hpr,hcr,hbe⟩,hc⟩:=hkid j hlt
    have hsn:(p.defs.take (j+1)).map DD.erase=(p.defs.take j).map DD.erase++[p.defs[j].erase]:=by rw [List.take_succ_eq_append_getElem hlt,List.map_append];rfl
    have hp8:=HP8.out _ (List.getElem_mem hlt)
    have hjI:(j:Int)<(p.defs.length:Int):=by omega
    generalize p.defs[j]=d at hpr hcr hbe hc hsn hp8
    have hnj:((p.defs.take j).map DD.erase).length=j:=by rw [List.length_map,List.length_take];omega
    generalize (p.defs.take j).map DD.erase=acc at hrow hsn hnj
    have HNJ:=Lib.hid hnj
    have HSN:=Lib.hid hsn
    obtain ⟨ap,cp,rfl⟩:=hpr.slice
    obtain ⟨ac,cc,rfl⟩:=hcr.slice
    obtain ⟨am,wn,cm,ae,ce,rfl,rfl⟩:=EAt.slX hbe
    have hcl:∀ (c:Nat) (u:Value),w.cell? ⟨b,c,none⟩=some u→wo.cell? ⟨b,c,none⟩=some u:=fun c u hu=>(hbl.cell (p:=⟨b,c,none⟩) hbw).trans hu
    have y0:=hcl _ _ (show w.cell? ⟨b,off+j * 15,none⟩=some (.bool d.pub) from hc 0 _ rfl)
    have y1:=hcl _ _ (show w.cell? ⟨b,off+j * 15+1,none⟩=some (.string ⟨d.res.name.toArray⟩) from hc 1 _ rfl)
    have y2:=hcl _ _ (show w.cell? ⟨b,off+j * 15+2,none⟩=some (.slice ap d.params.length cp) from hc 2 _ rfl)
    have y3:=hcl _ _ (show w.cell? ⟨b,off+j * 15+3,none⟩=some (.int .i64 d.res.base) from hc 3 _ rfl)
    have y4:=hcl _ _ (show w.cell? ⟨b,off+j * 15+4,none⟩=some (.slice ac d.res.clause.length cc) from hc 4 _ rfl)
    have y5:=hcl _ _ (show w.cell? ⟨b,off+j * 15+5,none⟩=some (.int .i64 d.body.op) from hc 5 _ rfl)
    have y6:=hcl _ _ (show w.cell? ⟨b,off+j * 15+6,none⟩=some (.string ⟨d.body.name.toArray⟩) from hc 6 _ rfl)
    have y7:=hcl _ _ (show w.cell? ⟨b,off+j * 15+7,none⟩=some (.string ⟨d.body.module.toArray⟩) from hc 7 _ rfl)
    have y8:=hcl _ _ (show w.cell? ⟨b,off+j * 15+8,none⟩=some (.bool (decide (d.body.num<0))) from hc 8 _ rfl)
    have y9:=hcl _ _ (show w.cell? ⟨b,off+j * 15+9,none⟩=some (.slice am wn cm) from hc 9 _ rfl)
    have y10:=hcl _ _ (show w.cell? ⟨b,off+j * 15+10,none⟩=some (.bool d.body.yes) from hc 10 _ rfl)
    have y11:=hcl _ _ (show w.cell? ⟨b,off+j * 15+11,none⟩=some (.slice ae d.body.kids.length ce) from hc 11 _ rfl)
    have y12:=hcl _ _ (show w.cell? ⟨b,off+j * 15+12,none⟩=some (.int .i64 d.body.at_) from hc 12 _ rfl)
    have y13:=hcl _ _ (show w.cell? ⟨b,off+j * 15+13,none⟩=some (.int .i64 d.res.at_) from hc 13 _ rfl)
    have y14:=hcl _ _ (show w.cell? ⟨b,off+j * 15+14,none⟩=some (.int .i64 d.res.bare) from hc 14 _ rfl)
    have T0:=heap_alloc_new wo (.cells #[.bool d.pub,.string ⟨d.res.name.toArray⟩,.slice ap d.params.length cp,.int .i64 d.res.base,.slice ac d.res.clause.length cc,.int .i64 d.body.op,.string ⟨d.body.name.toArray⟩,.string ⟨d.body.module.toArray⟩,.bool (decide (d.body.num<0)),.slice am wn cm,.bool d.body.yes,.slice ae d.body.kids.length ce,.int .i64 d.body.at_,.int .i64 d.res.at_,.int .i64 d.res.bare] 54)
    have hb0:=below_new wo (.cells #[.bool d.pub,.string ⟨d.res.name.toArray⟩,.slice ap d.params.length cp,.int .i64 d.res.base,.slice ac d.res.clause.length cc,.int .i64 d.body.op,.string ⟨d.body.name.toArray⟩,.string ⟨d.body.module.toArray⟩,.bool (decide (d.body.num<0)),.slice am wn cm,.bool d.body.yes,.slice ae d.body.kids.length ce,.int .i64 d.body.at_,.int .i64 d.res.at_,.int .i64 d.res.bare] 54)
    obtain ⟨ap',cp',hv3,hcap3,hform3⟩:=hpr.form
    simp only [Value.slice.injEq] at hv3
    obtain ⟨rfl,-,rfl⟩:=hv3
    have HF3:=Lib.hid hform3
    clear hkid hc hcl hpr hcr hform3 hsn hnj H1
    go_upto_region 5 with fail
    clear y0 y1 y2 y3 y4 y5 y6 y7 y8 y9 y10 y11 y12 y13 y14
    have hDl:wo.heap.size<(wo.alloc (.cells #[.bool d.pub,.string ⟨d.res.name.toArray⟩,.slice ap d.params.length cp,.int .i64 d.res.base,.slice ac d.res.clause.length cc,.int .i64 d.body.op,.string ⟨d.body.name.toArray⟩,.string ⟨d.body.module.toArray⟩,.bool (decide (d.body.num<0)),.slice am wn cm,.bool d.body.yes,.slice ae d.body.kids.length ce,.int .i64 d.body.at_,.int .i64 d.res.at_,.int .i64 d.res.bare] 54)).heap.size:=by simp
    generalize hD:wo.heap.size=D at T0 hb0 hDl ⊢
    generalize wo.alloc _=wa at T0 hb0 hDl ⊢
    obtain ⟨⟨d0,d1,d2,d3,d4⟩,_,_,dz⟩:=def_cells2 T0
    have T1:=heap_setCell_same wa D 4 _ _ (.slice none 0 0) T0
    have T1':(wa.setCell ⟨D,4,none⟩ (.slice none 0 0)).heap[D]?=some (.cells #[.bool d.pub,.string ⟨d.res.name.toArray⟩,.slice ap d.params.length cp,.int .i64 d.res.base,.slice none 0 0,.int .i64 d.body.op,.string ⟨d.body.name.toArray⟩,.string ⟨d.body.module.toArray⟩,.bool (decide (d.body.num<0)),.slice am wn cm,.bool d.body.yes,.slice ae d.body.kids.length ce,.int .i64 d.body.at_,.int .i64 d.res.at_,.int .i64 d.res.bare] 54 (0,0)):=T1
    have hb1:Below D wo (wa.setCell ⟨D,4,none⟩ (.slice none 0 0)):=hb0.setCell (Nat.le_refl _) _
    clear T1
    go_upto_region 6 with fail
    clear d0 d1 d2 d3 d4 dz T0 hb0
    have hDl1:D<(wa.setCell ⟨D,4,none⟩ (.slice none 0 0)).heap.size:=by simpa using hDl
    generalize wa.setCell _ _=wb at T1' hb1 hDl1 ⊢
    obtain ⟨⟨d0,d1,d2,d3,d4⟩,_,_,dz⟩:=def_cells2 T1'
    have T2:=heap_setCell_same wb D 2 _ _ (.slice none 0 0) T1'
    have T2':(wb.setCell ⟨D,2,none⟩ (.slice none 0 0)).heap[D]?=some (.cells #[.bool d.pub,.string ⟨d.res.name.toArray⟩,.slice none 0 0,.int .i64 d.res.base,.slice none 0 0,.int .i64 d.body.op,.string ⟨d.body.name.toArray⟩,.string ⟨d.body.module.toArray⟩,.bool (decide (d.body.num<0)),.slice am wn cm,.bool d.body.yes,.slice ae d.body.kids.length ce,.int .i64 d.body.at_,.int .i64 d.res.at_,.int .i64 d.res.bare] 54 (0,0)):=T2
    have hb2:Below D wo (wb.setCell ⟨D,2,none⟩ (.slice none 0 0)):=hb1.setCell (Nat.le_refl _) _
    have hDl2:D<(wb.setCell ⟨D,2,none⟩ (.slice none 0 0)).heap.size:=by simpa using hDl1
    clear T2
    go_upto_region 8 with fail
    clear d0 d1 d2 d3 d4 dz T1' hb1 hDl hDl1
    generalize wb.setCell _ _=w3 at T2' hb2 hDl2 ⊢
    go_wp2
    go_loopw [26] (fun q wr=>∃ (k:Nat) (ap2:Option Addr) (cp2:Nat),k≤d.params.length∧q=.int .i64 k∧Alk (fun b=>b<w3.heap.size∧b≠D) w3 wr∧wr.heap[D]?=some (.cells #[.bool d.pub,.string ⟨d.res.name.toArray⟩,.slice ap2 k cp2,.int .i64 d.res.base,.slice none 0 0,.int .i64 d.body.op,.string ⟨d.body.name.toArray⟩,.string ⟨d.body.module.toArray⟩,.bool (decide (d.body.num<0)),.slice am wn cm,.bool d.body.yes,.slice ae d.body.kids.length ce,.int .i64 d.body.at_,.int .i64 d.res.at_,.int .i64 d.res.bare] 54 (0,0))∧OwnQ (FK XA) (fun _=>False) w3.heap.size 56 wr (.slice ap2 k cp2) ((d.params.take k).map FF.erase)∧Below D wo wr) (fun q _=>d.params.length - (intOf q).toNat)
    case atStart=>exact ⟨0,none,0,Nat.zero_le _,rfl,Alk.refl _ _,T2',by rw [List.take_zero];exact OwnQ.nil _ _ _ _ _,hb2⟩
    case round =>
     obtain ⟨k,ap2,cp2,hk,rfl,halx,hDx,hprow,hbx⟩:=hrel
     have hszx:=halx.1
     by_cases hlt3:k<d.params.length
     ·
      obtain ⟨b3,o3,rfl,hb3B,hb3w,hkid3⟩:=HF3.out (by omega)
      obtain ⟨cv3,hcr3,hc3⟩:=hkid3 k hlt3
      have hsn3:(d.params.take (k+1)).map FF.erase=(d.params.take k).map FF.erase++[d.params[k].erase]:=by rw [List.take_succ_eq_append_getElem hlt3,List.map_append];rfl
      have hkI:(k:Int)<(d.params.length:Int):=by omega
      generalize d.params[k]=f at hcr3 hc3 hsn3
      obtain ⟨ac3,cc3,rfl⟩:=RowK.slice (show RowK (EK XA) (fun b=>b<B) w cv3 f.clause from hcr3)
      have hnk:((d.params.take k).map FF.erase).length=k:=by rw [List.length_map,List.length_take];omega
      generalize (d.params.take k).map FF.erase=acc3 at hprow hsn3 hnk
      have HNK:=Lib.hid hnk
      have HSN3:=Lib.hid hsn3
      have hbwx:Below w.heap.size w wr:=hbl.trans (hbx.mono (by have:=hbl.size;omega))
      have hcl:∀ (c:Nat) (u:Value),w.cell? ⟨b3,c,none⟩=some u→wr.cell? ⟨b3,c,none⟩=some u:=fun c u hu=>(hbwx.cell (p:=⟨b3,c,none⟩) hb3w).trans hu
      have v0:=hcl _ _ (show w.cell? ⟨b3,o3+k * 5,none⟩=some (.string ⟨f.name.toArray⟩) from hc3 0 _ rfl)
      have v1:=hcl _ _ (show w.cell? ⟨b3,o3+k * 5+1,none⟩=some (.int .i64 f.base) from hc3 1 _ rfl)
      have v2:=hcl _ _ (show w.cell? ⟨b3,o3+k * 5+2,none⟩=some (.slice ac3 f.clause.length cc3) from hc3 2 _ rfl)
      have v3:=hcl _ _ (show w.cell? ⟨b3,o3+k * 5+3,none⟩=some (.int .i64 f.at_) from hc3 3 _ rfl)
      have v4:=hcl _ _ (show w.cell? ⟨b3,o3+k * 5+4,none⟩=some (.int .i64 f.bare) from hc3 4 _ rfl)
      have U0:=heap_alloc_new wr (.cells #[.string ⟨f.name.toArray⟩,.int .i64 f.base,.slice ac3 f.clause.length cc3,.int .i64 f.at_,.int .i64 f.bare] 56)
      have ha0:=below_new wr (.cells #[.string ⟨f.name.toArray⟩,.int .i64 f.base,.slice ac3 f.clause.length cc3,.int .i64 f.at_,.int .i64 f.bare] 56)
      clear hkid3 hc3 hcl hcr3 hsn3 hnk
      go_upto_region 11 with fail
      clear v0 v1 v2 v3 v4
      generalize hX:wr.heap.size=X at U0 ha0 ⊢
      generalize wr.alloc _=wy at U0 ha0 ⊢
      obtain ⟨-,-,p2,-,-,pz⟩:=par_cells U0
      have U1:=heap_setCell_same wy X 2 _ _ (.slice none 0 0) U0
      have U1':(wy.setCell ⟨X,2,none⟩ (.slice none 0 0)).heap[X]?=some (.cells #[.string ⟨f.name.toArray⟩,.int .i64 f.base,.slice none 0 0,.int .i64 f.at_,.int .i64 f.bare] 56 (0,0)):=U1
      have ha1:Below X wr (wy.setCell ⟨X,2,none⟩ (.slice none 0 0)):=ha0.setCell (Nat.le_refl _) _
      clear U1
      go_upto_region 12 with fail
      clear p2 pz U0 ha0
      generalize wy.setCell _ _=wz at U1' ha1 ⊢
      have ha2:Below wr.heap.size wr wz:=by rw [hX];exact ha1
      have hDxw:=(Array.getElem?_eq_some_iff.1 hDx).1
      have hDz:=(ha2.block D hDxw).trans hDx
      obtain ⟨q0,q1,q2,q3,q4,-⟩:=par_cells U1'
      obtain ⟨⟨-,-,d2,-,-⟩,_,_,dz⟩:=def_cells2 hDz
      obtain ⟨lrow,h1,hown,hes⟩:=hprow
      rw [HNK.out] at hown
      have hneD:some D≠(Value.slice ap2 k cp2).ownBlock:=fun q=>by have:=(hown.lt _ q.symm).1;omega
      have hza:=ha2.size
      clear hX U1' ha1
      go_wp2_with (at_builtin;refine wpList_append_lies _ rfl _ _ 52 rfl w3.heap.size 56 ip _ 5 64 Tryz.underlying52 hip1 hip2 hip3 hip4 rfl (by decide) _ k _ rfl ((own_below hown ha2).alloc _) ⟨wz.heap.size,0,none⟩ 1 1 [.string ⟨f.name.toArray⟩,.int .i64 f.base,.slice none 0 0,.int .i64 f.at_,.int .i64 f.bare] rfl rfl ?u1 ?u2 ?u3 ?u4 ?u5 ?u6 (wz.heap.size+1) (by simp) ?_)
      case u2=>simp [Value.oneCell']
      case u4=>unfold maxLen;omega
      case u5=>omega
      case u6=>omega
      intro gg cap5 w5 hown5 hgrow5 hat5 hlt5
      have hDe:=(hgrow5.block D (by simp;omega) hneD).trans ((Lib.alloc_old wz _ D (by omega)).trans hDz)
      obtain ⟨⟨-,-,d2',-,-⟩,_,_,dz'⟩:=def_cells2 hDe
      obtain ⟨o1,o2,o3⟩:=OwnQ.round (K:=FK XA) (Q:=fun _=>False) (wr:=wr) (kv:=.slice ap2 k cp2) (kv5:=.slice (some ⟨gg,0,none⟩) (k+1) cap5) (acc:=acc3) (a:=f.erase) (x:=.slice none 0 0) (l:=lrow) halx hDl2 (fun q=>q) h1 (by rw [HNK.out];exact hown) hes (FK_nil f _ _) ha2 (by rw [HNK.out];exact hown5) hgrow5 rfl hat5 2 (.slice (some ⟨gg,0,none⟩) (k+1) cap5)
      have hD6:(w5.setCell ⟨D,2,none⟩ (.slice (some ⟨gg,0,none⟩) (k+1) cap5)).heap[D]?=some (.cells #[.bool d.pub,.string ⟨d.res.name.toArray⟩,.slice (some ⟨gg,0,none⟩) (k+1) cap5,.int .i64 d.res.base,.slice none 0 0,.int .i64 d.body.op,.string ⟨d.body.name.toArray⟩,.string ⟨d.body.module.toArray⟩,.bool (decide (d.body.num<0)),.slice am wn cm,.bool d.body.yes,.slice ae d.body.kids.length ce,.int .i64 d.body.at_,.int .i64 d.res.at_,.int .i64 d.res.bare] 54 (0,0)):=heap_setCell_same w5 D 2 _ _ _ hDe
      have hb6:=o3 D wo (Nat.le_refl _) hbx
      clear hgrow5 hown5 hat5 hDe hDz hes hown halx hDx d2 dz q0 q1 q2 q3 q4 h1 ha2 hbwx hbx
      go_wp2
      clear d2' dz'
      generalize w5.setCell _ _=w6 at o1 o2 hD6 hb6 ⊢
      go_roundw
      case rel =>
       refine ⟨k+1,some ⟨gg,0,none⟩,cap5,by omega,by go_num,o2,hD6,?_,hb6⟩
       rw [HSN3.out]
       exact o1
      case measure=>simp [intOf];omega
     ·
      obtain rfl:k=d.params.length:=by omega
      have hkI:decide ((d.params.length:Int)<(d.params.length:Int))=false:=decide_eq_false (by omega)
      rw [List.take_length] at hprow
      have hDlo:wl.heap.size≤D:=by omega
      have hOD:O≠D:=by omega
      have hbo:Below wo.heap.size wo wr:=by rw [hD];exact hbx
      have hOx:=(hbo.block O (by omega)).trans hOr
      obtain ⟨o0,o1,oz⟩:=prog_cells2 hOx
      obtain ⟨⟨d0,d1,d2,d3,d4⟩,⟨d5,d6,d7,d8,d9⟩,⟨d10,d11,d12,d13,d14⟩,dz⟩:=def_cells2 hDx
      obtain ⟨lrow,h1,hown,hes⟩:=hrow
      rw [HNJ.out] at hown
      have hneO:some O≠(Value.slice ad' j cd').ownBlock:=fun q=>by have:=(hown.lt _ q.symm).1;omega
      have hltq:∀ b,some b=(Value.slice ad' j cd').ownBlock→wl.heap.size≤b∧b<D:=fun b q=>by rw [← hD];exact hown.lt b q.symm
      have hbwx:Below w.heap.size w wr:=hbl.trans (hbo.mono hbl.size)
      have hDn:DA.inn (fun b=>(b<B∨wl.heap.size≤b)∧some b≠(Value.slice ad' j cd').ownBlock) wr d.erase ⟨.slice ap2 d.params.length cp2,.slice none 0 0,.slice am wn cm,.slice ae d.body.kids.length ce⟩:=by
       refine ⟨?_,RowK.nil _ _ _,?_⟩
       ·exact hprow.row (R:=fun b=>(b<B∨wl.heap.size≤b)∧some b≠(Value.slice ad' j cd').ownBlock) (fun b hb=>⟨.inr (by omega),fun q=>by have:=(hltq b q).2;omega⟩) (fun b hb=>hb.elim)
       ·exact (EAt.frame (Alk.ofB hbwx (fun b hb=>by omega)) hbe).imp fun b hb hl=>⟨.inl hb,fun q=>by have:=(hltq b q).1;omega⟩
      have HDN:=Lib.hid hDn
      have hzx:=hbo.size
      have hblo:=hbl
      clear hDn hltq hprow hDx hbx hbe hbl
      go_wp2_with (at_builtin;refine wpList_append_lies _ rfl _ _ 29 rfl wl.heap.size 54 id _ 15 208 Tryz.underlying29 hid1 hid2 hid3 hid4 rfl (by decide) _ j _ rfl ((own_below hown hbo).alloc _) ⟨wr.heap.size,0,none⟩ 1 1 [.bool d.pub,.string ⟨d.res.name.toArray⟩,.slice ap2 d.params.length cp2,.int .i64 d.res.base,.slice none 0 0,.int .i64 d.body.op,.string ⟨d.body.name.toArray⟩,.string ⟨d.body.module.toArray⟩,.bool (decide (d.body.num<0)),.slice am wn cm,.bool d.body.yes,.slice ae d.body.kids.length ce,.int .i64 d.body.at_,.int .i64 d.res.at_,.int .i64 d.res.bare] rfl rfl ?x1 ?x2 ?x3 ?x4 ?x5 ?x6 (wr.heap.size+1) (by simp) ?_)
      case x2=>simp [Value.oneCell']
      case x4=>unfold maxLen;omega
      case x5=>omega
      case x6=>omega
      intro gg cap5 w5 hown5 hgrow5 hat5 hlt5
      have hOe:=(hgrow5.block O (by simp;omega) hneO).trans ((Lib.alloc_old wr _ O (by omega)).trans hOx)
      obtain ⟨o0',o1',oz'⟩:=prog_cells2 hOe
      obtain ⟨e1,e2,e3⟩:=OwnQ.round (K:=DA) (Q:=fun b=>b<B∨wl.heap.size≤b) (wr:=wo) (kv:=.slice ad' j cd') (kv5:=.slice (some ⟨gg,0,none⟩) (j+1) cap5) (acc:=acc) (a:=d.erase) (x:=⟨.slice ap2 d.params.length cp2,.slice none 0 0,.slice am wn cm,.slice ae d.body.kids.length ce⟩) (l:=lrow) halk hOw (by omega) h1 (by rw [HNJ.out];exact hown) hes HDN.out hbo (by rw [HNJ.out];exact hown5) hgrow5 rfl hat5 1 (.slice (some ⟨gg,0,none⟩) (j+1) cap5)
      have hO6:(w5.setCell ⟨O,1,none⟩ (.slice (some ⟨gg,0,none⟩) (j+1) cap5)).heap[O]?=some (.cells #[.slice ai' p.imports.length ci',.slice (some ⟨gg,0,none⟩) (j+1) cap5] 31 (0,0)):=heap_setCell_same w5 O 1 _ _ _ hOe
      have hb6:=e3 w.heap.size w (by omega) hblo
      clear hblo hgrow5 hown5 hat5 hOe hOx hes hown halk d0 d1 d2 d3 d4 d5 d6 d7 d8 d9 d10 d11 d12 d13 d14 dz o0 o1 oz h1 hbo hbwx
      go_wp2
      clear o0' o1' oz'
      generalize w5.setCell _ _=w6 at e1 e2 hO6 hb6 ⊢
      go_roundw
      case rel =>
       refine ⟨j+1,some ⟨gg,0,none⟩,cap5,by omega,by go_num,e2,hO6,?_,hb6⟩
       rw [HSN.out]
       exact e1
      case measure=>simp [intOf];omega
   ·
    obtain rfl:j=p.defs.length:=by omega
    have hjI:decide ((p.defs.length:Int)<(p.defs.length:Int))=false:=decide_eq_false (by omega)
    rw [List.take_length] at hrow
    have hR1:=(halk.2 (w.heap.size+1) ⟨by omega,by omega⟩ (by omega)).trans H1
    have hri:=((HIR.out.imp (Q:=fun b=>(w2.heap.size≤b∧b≠O)∧b<wl.heap.size∧b≠O) fun b hb hl=>⟨hb,hl,hb.2⟩).frame ⟨halk.1,fun b hb hl=>halk.2 b hb.2 hl⟩)
    have hrd:=hrow.row (R:=fun b=>b<B∨wl.heap.size≤b) (fun b hb=>.inr hb) (fun b hb _=>hb)
    obtain ⟨d0,d1,dz⟩:=prog_cells2 hOr
    obtain ⟨e0,e1,ez⟩:=prog_cells2 hR1
    have hdl:p.erase.defs.length=p.defs.length:=List.length_map _
    have HDL:=Lib.hid hdl
    clear hrow H0 H1 halk hOr hR1 c0 c1 hdl
    go_wp2
    refine bodyPost_ret (v:=.agg #[.slice ai' p.imports.length ci',.slice ad' p.defs.length cd']) (by simp [results,Tryz.results14,go_sem,e0,e1]) rfl ⟨ai',ci',ad',cd',by rw [HDL.out];rfl,HNL.out,⟨?_,?_⟩,?_⟩
    ·exact (hri.frame ((Alk.set _ fun b hb=>by show b≠w.heap.size+1;omega).trans (Alk.set _ fun b hb=>by show b≠w.heap.size+1;omega))).imp fun b hb hl=>hl
    ·rw [HDL.out]
     exact (hrd.frame ((Alk.set _ fun b hb=>by show b≠w.heap.size+1;omega).trans (Alk.set _ fun b hb=>by show b≠w.heap.size+1;omega))).imp fun b hb hl=>hl
    ·exact (hbl.setCell (by simp) _).setCell (by simp) _
def eToks:List Tok:=[⟨5,[],[],0⟩]
def eNodes:List Nd:=[⟨19,0,[]⟩,⟨1,-1,[0]⟩]
theorem e_prog:progF [] 200=.good eToks eNodes:=by rfl
theorem asP_no (w:World) :
  Calls Tryz.prog 28 #[.agg #[.slice none 0 0,.slice none 0 0],.func (.func 10) #[] #[]] w fun e w'=>e=.returned (.bool false)∧Below w.heap.size w w':=by
 have HDump:=Lib.hid (fun (W:World)=>dump_no (-1) W)
 have HShow:Hid (∀ W:World,Calls Tryz.prog 11 #[.agg #[.slice none 0 0,.slice none 0 0]] W fun e w'=>e=.returned (.string ⟨#[]⟩)∧Below W.heap.size W w'):=Lib.hid fun W =>
  show_any 0 (.slice none 0 0) (.slice none 0 0) [] W (by simp) (by decide) (slNil _ _ _) (Nat.zero_le _)
 have HForm:=Lib.hid (fun W=>parse_any ⟨#[]⟩ 200 W (by omega) (by omega) (by decide))
 have hal:=below_new w (.cells #[.slice none 0 0,.slice none 0 0] 25)
 have e1:=heap_alloc_new w (.cells #[.slice none 0 0,.slice none 0 0] 25)
 rw [show progF (ByteArray.mk #[]).data.toList 200=.good eToks eNodes from e_prog] at HForm
 obtain ⟨D,G⟩:∃ D,GoodT eToks eNodes D:=by
  obtain ⟨p,G⟩:=prog_good (by omega) e_prog
  exact ⟨_,G.good⟩
 have hft:=G.fewt
 have hfn:=G.few
 obtain ⟨XD,hXD,eX⟩:=bytes_of D
 generalize eToks=toks at HForm G hft
 generalize eNodes=nodes at HForm G hfn
 have HDumpU:Hid (∀ (B:Nat) (at_:Option Addr) (ct:Nat) (an:Option Addr) (cn:Nat) (W:World),TreeAt B W (.agg #[.slice at_ toks.length ct,.slice an nodes.length cn]) toks nodes→B≤W.heap.size→Calls Tryz.prog 12 #[.agg #[.slice at_ toks.length ct,.slice an nodes.length cn],.int .i64 ((nodes.length:Int) - 1)] W fun e w'=>e=.returned (.tuple #[.string XD,.int .i64 0])∧Below W.heap.size W w') :=
  Lib.hid fun B at_ ct an cn W hT hBW=>(dump_yes G B _ _ W hT hBW).mono fun e w' h=>⟨by rw [h.1,eX],h.2⟩
 clear G hXD eX
 go_enter Tryz.func28,Tryz.ntmps28
 go_upto_region 1 with fail
 generalize w.alloc _=w1 at hal e1 ⊢
 obtain ⟨c0,c1⟩:=tree_cells e1
 have hl1:=(Array.getElem?_eq_some_iff.1 e1).1
 go_cut [5,6] (fun a e wx=>a=.string ⟨#[]⟩∧e=.int .i64 10∧wx.heap[w.heap.size]?=some (.cells #[.slice none 0 0,.slice none 0 0] 25 (0,0))∧Below w.heap.size w wx)
 case first =>
  go_region_with (first|(go_at_call 13;refine (root_tree none 0 0 none 0 0 _ (by omega)).mono ?_;rintro e w5 ⟨rfl,hb5⟩;have d0:=(hb5.cell (p:=⟨w.heap.size,0,none⟩) hl1).trans c0;have d1:=(hb5.cell (p:=⟨w.heap.size,1,none⟩) hl1).trans c1)|(go_at_call 12;refine (HDump.out _).mono ?_;rintro e w6 ⟨rfl,hb6⟩))
  all_goals
   have hb56:=hal.drew.trans (hb5.mono hal.size)
   have T6:=(hb6.block w.heap.size (Nat.lt_of_lt_of_le hl1 hb5.size)).trans ((hb5.block w.heap.size hl1).trans e1)
   go_wp2_with fail
   go_meet
   exact ⟨rfl,rfl,T6,hb56.trans (hb6.mono hb56.size)⟩
 case rest =>
  obtain ⟨rfl,rfl,hT,hbc⟩:=hcut
  clear hal e1 c0 c1 hl1 w1
  obtain ⟨wo,rfl⟩:∃ wo:World,wo=wc:=⟨_,rfl⟩
  obtain ⟨c0,c1⟩:=tree_cells hT
  go_upto_region 3 with (first|(go_at_call 11;refine (HShow.out _).mono ?_;rintro e w7 ⟨rfl,hb7⟩)|(go_at_call 10;refine (HForm.out _).mono ?_;rintro e w8 ⟨hb8,a8,c8,b8,d8,rfl,ht8⟩))
  have hb78:=(hbc.trans (hb7.mono hbc.size))
  have hb88:=hb78.trans (hb8.mono hb78.size)
  have hal9:=(below_new w8 (.cells #[.slice a8 toks.length c8,.slice b8 nodes.length d8] 25)).alloc (by simp) (.cells #[.int .i64 0,.int .i64 0] 44)
  have hU9:=(Lib.alloc_old (w8.alloc (.cells #[.slice a8 toks.length c8,.slice b8 nodes.length d8] 25)) (.cells #[.int .i64 0,.int .i64 0] 44) w8.heap.size (by simp)).trans (heap_alloc_new w8 (.cells #[.slice a8 toks.length c8,.slice b8 nodes.length d8] 25))
  have hU:=Lib.hid (ht8.at.below hal9)
  have hb9:=hb88.trans (hal9.mono hb88.size)
  have hz9:=hal9.size
  clear hb7 hb8 hal9 ht8 hb78 hT hbc c0 c1 HShow HForm HDump
  generalize w8.heap.size=ub at hU9 hU hz9 hb88 ⊢
  generalize (w8.alloc _).alloc _=w9 at hU9 hU hb9 hz9 ⊢
  obtain ⟨c0,c1⟩:=tree_cells hU9
  have hl9:=(Array.getElem?_eq_some_iff.1 hU9).1
  go_cut [9,10] (fun a e wx=>Below w.heap.size w wx)
  case first =>
   go_region_with (first|(go_at_call 13;refine (root_tree a8 toks.length c8 b8 nodes.length d8 _ (by omega)).mono ?_;rintro e w5 ⟨rfl,hb5⟩;have d0:=(hb5.cell (p:=⟨ub,0,none⟩) hl9).trans c0;have d1:=(hb5.cell (p:=⟨ub,1,none⟩) hl9).trans c1)|(go_at_call 12;refine (HDumpU.out ub a8 c8 b8 d8 _ (hU.out.below (((Below.refl w9.heap.size w9).drew.trans hb5).mono hz9)) (Nat.le_trans hz9 hb5.size)).mono ?_;rintro e w6 ⟨rfl,hb6⟩))
   all_goals
    have hb56:=(Below.refl w9.heap.size w9).drew.trans hb5
    go_wp2_with fail
    go_meet
    exact hb9.trans ((hb56.trans (hb6.mono hb56.size)).mono hb9.size)
  case rest =>
   clear c0 c1 hl9 hU9 hb9 hb88
   go_wp2
   go_ret
   exact ⟨rfl,hcut⟩
mutual
theorem PE.size_leE:∀ e:PE,e.size≤e.sizeG
 | .mk _ _ _ _ _ _ kids _=>by
  rw [PE.size,PE.sizeG]
  have:=sizeE_leE kids
  omega
theorem sizeE_leE:∀ l:List PE,sizeE l≤sizeGE l
 | []=>Nat.le_refl _
 | e :: l=>by
  rw [sizeE,sizeGE]
  have h1:=PE.size_leE e
  have h2:=sizeE_leE l
  omega
end
structure DumpOk (M:Nat) (p:PP):Prop where
 small:p.small M
 fits:p.all (PE.fits M)
 size:p.all fun e=>e.size≤1099511627776
 dump:p.all (dumpK 20000000)
 len:p.dump.length≤20000000000
theorem PGood.dumpOk {S:List UInt8}{toks:List Tok}{nodes:List Nd}{p:PgS}(F:PGood S toks nodes p)(hs:S.length≤1500):DumpOk (S.length+1) (p.pp toks) :=
 ⟨F.psmall,F.fits,PP.all_imp F.few F.few F.few fun e h _ _=>by have:=PE.size_leE e;have:=F.nd;have:=F.count;omega,F.dumps hs,F.dump_len hs⟩
theorem PGood.eraseOk {S:List UInt8}{toks:List Tok}{nodes:List Nd}{p:PgS}(F:PGood S toks nodes p)(hs:S.length≤1500):DumpOk (S.length+1) (p.pp toks).erase :=
 ⟨F.psmall.erase,PP.all_erase F.fits,PP.all_erase (F.dumpOk hs).size,PP.all_erase (F.dumps hs),F.erase_len hs⟩
theorem rats_any:∀ (n:Nat) (e:PE),SizeOf.sizeOf e<n→∀ (B:Nat) (m:Value) (ae:Option Addr) (ce:Nat) (w:World),EAt XR (fun b=>b<B) w m (.slice ae e.kids.length ce) e→B≤w.heap.size→e.size≤1099511627776 →
  Calls Tryz.prog 24 #[.agg #[.int .i64 e.op,.string ⟨e.name.toArray⟩,.string ⟨e.module.toArray⟩,.string ⟨e.txt.toArray⟩,.bool e.yes,.slice ae e.kids.length ce,.int .i64 e.at_]] w (RowPost e.ats w)
 | 0,e,hs,_,_,_,_,_,_,_,_=>absurd hs (by omega)
 | n+1,e,hs,B,m,ae,ce,w,h,hB,hz=>by
  obtain ⟨i0,hi,hz0,hz1,hz2⟩:=info_parts Tryz.infoIntA
  have hsub:=kids_sizeOf e
  have hdef:=e.size_def
  have hats:=e.ats_def
  obtain ⟨hnum,ae',ce',hv,hcap,hf⟩:=h.form
  simp only [Value.slice.injEq] at hv
  obtain ⟨rfl,-,rfl⟩:=hv
  have hfew:=sizeE_few e.kids
  have IH:=Lib.hid (fun (x:PE) (hx:x∈e.kids)=>rats_any n x (by have:=hsub x hx;omega))
  have HF:=Lib.hid hf
  have HA:=Lib.hid hats
  have hkl:e.kids.length≤1099511627776:=by omega
  have hzk:sizeE e.kids+1≤1099511627776:=by omega
  clear h hnum hf hsub hs hdef hz hats
  go_enter Tryz.func24,Tryz.ntmps24
  go_wp2
  have e0:=heap_alloc_new w (.cells #[.int .i64 e.op,.string ⟨e.name.toArray⟩,.string ⟨e.module.toArray⟩,.string ⟨e.txt.toArray⟩,.bool e.yes,.slice ae e.kids.length ce,.int .i64 e.at_] 78)
  have e0:=(Lib.alloc_old (w.alloc (.cells #[.int .i64 e.op,.string ⟨e.name.toArray⟩,.string ⟨e.module.toArray⟩,.string ⟨e.txt.toArray⟩,.bool e.yes,.slice ae e.kids.length ce,.int .i64 e.at_] 78)) (.cells #[.int .i64 e.at_] 3) w.heap.size (by simp)).trans e0
  have e1:=heap_alloc_new (w.alloc (.cells #[.int .i64 e.op,.string ⟨e.name.toArray⟩,.string ⟨e.module.toArray⟩,.string ⟨e.txt.toArray⟩,.bool e.yes,.slice ae e.kids.length ce,.int .i64 e.at_] 78)) (.cells #[.int .i64 e.at_] 3)
  have hb1:Below w.heap.size w ((w.alloc (.cells #[.int .i64 e.op,.string ⟨e.name.toArray⟩,.string ⟨e.module.toArray⟩,.string ⟨e.txt.toArray⟩,.bool e.yes,.slice ae e.kids.length ce,.int .i64 e.at_] 78)).alloc (.cells #[.int .i64 e.at_] 3)):=((Below.refl _ w).alloc (Nat.le_refl _) _).alloc (by simp) _
  rw [World.size_alloc] at e1
  generalize (w.alloc _).alloc _=W at e0 e1 hb1 ⊢
  generalize hkk:e.kids=ks at *
  go_loopw [3,4] (fun v q wr=>∃ (k:Nat) (g cap:Nat) (l:List Int),k≤ks.length∧q=.int .i64 k∧l=(e.at_:Int) :: atsE (ks.take k)∧v=.slice (some ⟨g,0,none⟩) l.length cap∧wr.ownsRow w.heap.size 3 1 (.slice (some ⟨g,0,none⟩) l.length cap) l.length (l.map (Value.int .i64))∧wr.heap[w.heap.size]?=some (.cells #[.int .i64 e.op,.string ⟨e.name.toArray⟩,.string ⟨e.module.toArray⟩,.string ⟨e.txt.toArray⟩,.bool e.yes,.slice ae ks.length ce,.int .i64 e.at_] 78 (0,0))∧Below w.heap.size w wr) (fun _ q _=>ks.length - (intOf q).toNat)
  case atStart=>exact ⟨0,w.heap.size+1,1,[(e.at_:Int)],Nat.zero_le _,rfl,rfl,rfl,⟨rfl,.inr ⟨_,1,#[.int .i64 e.at_],rfl,by omega,e1,Nat.le_refl _,by decide,rfl,rfl⟩⟩,e0,hb1⟩
  case round =>
   obtain ⟨k,g,cap,l,hk,rfl,hl,rfl,hrow,hbx,hbl⟩:=hrel
   have hw:=hbl.size
   have c5:wr.cell? ⟨w.heap.size,5,none⟩=some (.slice ae ks.length ce):=by rw [Lib.cell_of_heap hbx];rfl
   by_cases hlt:k<ks.length
   ·obtain ⟨b,off,rfl,hbB,hbw,hkid⟩:=HF.out (by omega)
    obtain ⟨m1,kv,hE,hc⟩:=hkid k hlt
    have hmem:ks[k]∈ks:=List.getElem_mem hlt
    have hle:=sizeE_mem ks _ hmem
    have hsz:l++ks[k].ats=(e.at_:Int) :: atsE (ks.take (k+1)):=by rw [take_succ_at hlt,atsE_append,hl,List.cons_append];simp [atsE]
    have htl:l.length+ks[k].size≤1+sizeE ks:=by
     have h1:=congrArg List.length hsz
     rw [List.length_append,PE.ats_len,List.length_cons,atsE_len] at h1
     have:=sizeE_append (ks.take (k+1)) (ks.drop (k+1))
     rw [List.take_append_drop] at this
     omega
    obtain ⟨_,ae1,ce1,rfl,_,_⟩:=hE.form
    have IHx:=IH.out _ hmem B m1 ae1 ce1
    generalize ks[k]=x at hE hc hsz hle IHx htl
    have y0:=(hbl.cell (p:=⟨b,off+k * 7,none⟩) hbw).trans (hc 0 _ rfl)
    have y1:=(hbl.cell (p:=⟨b,off+k * 7+1,none⟩) hbw).trans (hc 1 _ rfl)
    have y2:=(hbl.cell (p:=⟨b,off+k * 7+2,none⟩) hbw).trans (hc 2 _ rfl)
    have y3:=(hbl.cell (p:=⟨b,off+k * 7+3,none⟩) hbw).trans (hc 3 _ rfl)
    have y4:=(hbl.cell (p:=⟨b,off+k * 7+4,none⟩) hbw).trans (hc 4 _ rfl)
    have y5:=(hbl.cell (p:=⟨b,off+k * 7+5,none⟩) hbw).trans (hc 5 _ rfl)
    have y6:=(hbl.cell (p:=⟨b,off+k * 7+6,none⟩) hbw).trans (hc 6 _ rfl)
    simp only [strV] at y1 y2 y3
    have HI:=Lib.hid (IHx wr (hE.frame (Alk.ofB hbl (fun b hb=>by omega))) (by omega) (by omega))
    have hxl:=x.ats_len
    have HS:=Lib.hid hsz
    have HX:=Lib.hid hxl
    have hxb:l.length+x.ats.length≤1099511627776:=by omega
    have hl0:0<l.length:=by rw [hl];simp
    have HBX:=Lib.hid hbx
    clear hkid hc hE IHx hsz hl hxl hbx
    have hkI:(k:Int)<(ks.length:Int):=by omega
    go_wp2_with (first|(go_at_call 24;refine HI.out.mono ?_;rintro r w2 ⟨g2,c2,rfl,hrow2,hb2⟩;have hown2:=own_below hrow hb2;have hzz:=hb2.size)|(at_builtin;refine wpList_append_own_at _ rfl _ _ 71 rfl w.heap.size 3 i0 (.int .i64 0) 1 8 Tryz.underlying71 hi hz0 hz1 hz2 rfl (by decide) _ _ _ rfl hown2 ⟨g2,0,none⟩ x.ats.length c2 (x.ats.map (Value.int .i64)) rfl (by simp) (fun j u hj=>row_cell hrow2 hj) (by simp [Value.oneCell']) (by unfold maxLen;omega) (by omega) (by omega) ?_;intro v' w3 hown3 hgrow _ hob'))
    have hgrow':w2.grownBy w3 (Value.slice (some ⟨g,0,none⟩) l.length cap).ownBlock:=hgrow
    obtain ⟨g3,c3,rfl⟩:=row_form hown3 (by omega)
    have hlx:=(Array.getElem?_eq_some_iff.1 HBX.out).1
    refine ⟨⟨k+1,g3,c3,l++x.ats,by omega,by go_num,HS.out,?_,?_,?_,?_⟩,by simp [intOf];omega⟩
    ·rw [List.length_append]
    ·rw [List.length_append,List.map_append]
     exact hown3
    ·exact own_block hown2 hgrow' ((hb2.block w.heap.size hlx).trans HBX.out) (by decide)
    ·exact (hbl.trans (hb2.mono hw)).grown hgrow' (by omega) (fun q hq=>(hown2.lt q hq).1)
   ·obtain rfl:k=ks.length:=by omega
    have hkI:decide ((ks.length:Int)<(ks.length:Int))=false:=decide_eq_false (by omega)
    rw [List.take_length,← HA.out] at hl
    subst hl
    go_wp2
    go_ret
    exact ⟨g,cap,rfl,hrow,hbl⟩
def SamePost (p:Bool)(w:World)(r:Ending)(w':World):Prop:=r=.returned (.bool p)∧Below w.heap.size w w'
theorem same_yes (B:Nat)(v u:Value)(l:List Int)(w:World)(h1:Ints B w v l)(h2:Ints B w u l)(hB:B≤w.heap.size)(hn:l.length≤1099511627776) :
  Calls Tryz.prog 20 #[v,u] w (SamePost true w):=by
 obtain ⟨ao,cap,rfl,_,hf⟩:=h1.form
 obtain ⟨bo,cbp,rfl,_,hg⟩:=h2.form
 have HF:=Lib.hid hf
 have HG:=Lib.hid hg
 clear h1 h2 hf hg
 go_enter Tryz.func20,Tryz.ntmps20
 go_wp2
 go_loopw [5] (fun q wr=>∃ k:Nat,k≤l.length∧q=.int .i64 k∧Below w.heap.size w wr) (fun q _=>l.length - (intOf q).toNat)
 case atStart=>exact ⟨0,Nat.zero_le _,rfl,Below.refl _ _⟩
 case round =>
  obtain ⟨k,hk,rfl,hbl⟩:=hrel
  by_cases hlt:k<l.length
  ·obtain ⟨b,off,rfl,hb,hc⟩:=HF.out (by omega)
   obtain ⟨b',off',rfl,hb',hc'⟩:=HG.out (by omega)
   have x0:=(hbl.cell (p:=⟨b,off+k,none⟩) (by show b<_;omega)).trans (hc k hlt)
   have x1:=(hbl.cell (p:=⟨b',off'+k,none⟩) (by show b'<_;omega)).trans (hc' k hlt)
   generalize l[k]=x at x0 x1
   have hkI:(k:Int)<(l.length:Int):=by omega
   clear hc hc'
   go_wp2_with fail
   go_quiet (fail)
   go_wp2
   go_roundw
   case rel=>exact ⟨k+1,by omega,by go_num,below_drewN hbl _⟩
   case measure=>simp [intOf];omega
  ·obtain rfl:k=l.length:=by omega
   have hkI:decide ((l.length:Int)<(l.length:Int))=false:=decide_eq_false (by omega)
   go_wp2
   go_ret
   exact ⟨rfl,hbl⟩
end Go.Proofs.YtemkhbmkaalgdaaGreatDoor
