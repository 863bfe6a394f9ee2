/- Walks and plain laws: ABareW, RBareW. -/
import Derived.Test.YtemkhbmkaalgdaaGreatDoorQ33
import Derived.Test.YtemkhbmkaalgdaaGreatDoorQ26
import Derived.Test.YtemkhbmkaalgdaaGreatDoorQ27
set_option maxHeartbeats 16000000
set_option maxRecDepth 100000
set_option linter.unusedVariables false
set_option linter.unusedSimpArgs false
namespace Go.Proofs.YtemkhbmkaalgdaaGreatDoor
open Go.RowKit Go
def BarePost (l:List Int)(w:World)(r:Ending)(w':World):Prop:=∃ v,r=.returned v∧w'.ownsRow w.heap.size 3 1 v l.length (l.map (Value.int .i64))∧Below w.heap.size w w'
theorem own_slice {w:World}{C e n:Nat}{v:Value}{cs:List Value}(h:w.ownsRow C e 1 v n cs):∃ ao cap,v=.slice ao n cap:=(SlP.ofOwns (P:=fun _=>True) h fun _ _=>trivial).form
theorem flat_len {α β:Type}(f:α→List β)(K:Nat):∀ l:List α,(∀ x∈l,(f x).length≤K)→(l.flatMap f).length≤l.length * K
 | [],_=>by simp
 | x :: l,h=>by
  have h1:=h x List.mem_cons_self
  have h2:=flat_len f K l fun y hy=>h y (List.mem_cons_of_mem _ hy)
  rw [List.flatMap_cons,List.length_append,List.length_cons,Nat.succ_mul]
  omega
theorem FF.bares_len (f:FF):f.bares.length≤1:=by unfold FF.bares;split <;> simp
theorem pbares_len (l:List FF):(l.flatMap FF.bares).length≤l.length:=by
 have:=flat_len FF.bares 1 l fun f _=>f.bares_len
 omega
theorem DD.bares_len {M:Nat}{d:DD}(h:d.small M):d.bares.length≤9:=by
 have h1:=pbares_len d.params
 have h2:=d.res.bares_len
 have h3:=h.few
 rw [DD.bares,List.length_append]
 omega
theorem dbares_len {M:Nat}{l:List DD}(h:∀ d∈l,d.small M)(h2:l.length≤64):(l.flatMap DD.bares).length≤576:=by
 have:=flat_len DD.bares 9 l fun d hd=>DD.bares_len (h d hd)
 omega
theorem FF.bares_yes {f:FF}(h:0≤f.bare):f.bares=[f.bare]:=by rw [FF.bares,if_pos h]
theorem FF.bares_no {f:FF}(h:¬ 0≤f.bare):f.bares=[]:=by rw [FF.bares,if_neg h]
theorem abare_any {M:Nat}(p:PP)(hs:p.small M)(B:Nat)(ai:Option Addr)(ci:Nat)(ad:Option Addr)(cd:Nat)(w:World)
  (h:PAtA (fun b=>b<B) w (.slice ai p.imports.length ci) (.slice ad p.defs.length cd) p) (hB:B≤w.heap.size) :
  Calls Tryz.prog 21 #[.agg #[.slice ai p.imports.length ci,.slice ad p.defs.length cd]] w (BarePost p.bares w):=by
 obtain ⟨i0,hi0,hi1,hi2,hi3⟩:=info_parts Tryz.infoIntA
 obtain ⟨_,hdr⟩:=h
 obtain ⟨ao2,cc2,hv2,hcap2,hform2⟩:=hdr.form
 simp only [Value.slice.injEq] at hv2
 obtain ⟨rfl,-,rfl⟩:=hv2
 have HF2:=Lib.hid hform2
 have hbb:=below_new w (.cells #[.slice ai p.imports.length ci,.slice ad p.defs.length cd] 31)
 have hbox:=heap_alloc_new w (.cells #[.slice ai p.imports.length ci,.slice ad p.defs.length cd] 31)
 obtain ⟨c0,c1⟩:=prog_cells hbox
 have hdl:=hs.dfew
 have HS:=Lib.hid hs.defs
 clear hdr hform2 hs hbox
 go_enter Tryz.func21,Tryz.ntmps21
 go_wp2
 clear c0 c1
 go_loopw [3,11] (fun v q wr=>∃ (j:Nat) (acc:List Int),j≤p.defs.length∧q=.int .i64 j∧acc=(p.defs.take j).flatMap DD.bares∧wr.ownsRow w.heap.size 3 1 v acc.length (acc.map (Value.int .i64))∧Below w.heap.size w wr) (fun _ q _=>p.defs.length - (intOf q).toNat)
 case atStart=>exact ⟨0,[],Nat.zero_le _,rfl,rfl,World.ownsRow_nil _ _ _ _,hbb⟩
 case round =>
  obtain ⟨j,acc,hj,rfl,hacc,hrow,hbl⟩:=hrel
  obtain ⟨vo,vc,rfl⟩:=own_slice hrow
  have hzr:=hbl.size
  have haccl:acc.length≤576:=by rw [hacc];exact dbares_len (M:=M) (fun d hd=>HS.out d (List.mem_of_mem_take hd)) (by rw [List.length_take];omega)
  by_cases hlt:j<p.defs.length
  ·obtain ⟨b,off,rfl,hbB,hbw,hkid⟩:=HF2.out (by omega)
   obtain ⟨⟨pv,cv,bm,bk⟩,⟨hpr,hcr,hbe⟩,hc⟩:=hkid j hlt
   have hmem:p.defs[j]∈p.defs:=List.getElem_mem hlt
   have hsn:p.defs.take (j+1)=p.defs.take j++[p.defs[j]]:=List.take_succ_eq_append_getElem hlt
   have hjI:(j:Int)<(p.defs.length:Int):=by omega
   have hds:=HS.out _ hmem
   have hd8:=hds.few
   generalize p.defs[j]=d at hpr hcr hbe hc hsn hds hd8
   obtain ⟨ap,cp,rfl⟩:=hpr.slice
   obtain ⟨ac,cc,rfl⟩:=hcr.slice
   obtain ⟨am,wn,cm,ae,ce,rfl,rfl⟩:=EAt.slX hbe
   have hcl:∀ (c:Nat) (u:Value),w.cell? ⟨b,c,none⟩=some u→wr.cell? ⟨b,c,none⟩=some u:=fun c u hu=>(hbl.cell (p:=⟨b,c,none⟩) hbw).trans hu
   have y0:=hcl _ _ (show w.cell? ⟨b,off+j * 15,none⟩=some (.bool d.pub) from hc 0 _ rfl)
   have y1:=hcl _ _ (show w.cell? ⟨b,off+j * 15+1,none⟩=some (.string ⟨d.res.name.toArray⟩) from hc 1 _ rfl)
   have y2:=hcl _ _ (show w.cell? ⟨b,off+j * 15+2,none⟩=some (.slice ap d.params.length cp) from hc 2 _ rfl)
   have y3:=hcl _ _ (show w.cell? ⟨b,off+j * 15+3,none⟩=some (.int .i64 d.res.base) from hc 3 _ rfl)
   have y4:=hcl _ _ (show w.cell? ⟨b,off+j * 15+4,none⟩=some (.slice ac d.res.clause.length cc) from hc 4 _ rfl)
   have y5:=hcl _ _ (show w.cell? ⟨b,off+j * 15+5,none⟩=some (.int .i64 d.body.op) from hc 5 _ rfl)
   have y6:=hcl _ _ (show w.cell? ⟨b,off+j * 15+6,none⟩=some (.string ⟨d.body.name.toArray⟩) from hc 6 _ rfl)
   have y7:=hcl _ _ (show w.cell? ⟨b,off+j * 15+7,none⟩=some (.string ⟨d.body.module.toArray⟩) from hc 7 _ rfl)
   have y8:=hcl _ _ (show w.cell? ⟨b,off+j * 15+8,none⟩=some (.bool (decide (d.body.num<0))) from hc 8 _ rfl)
   have y9:=hcl _ _ (show w.cell? ⟨b,off+j * 15+9,none⟩=some (.slice am wn cm) from hc 9 _ rfl)
   have y10:=hcl _ _ (show w.cell? ⟨b,off+j * 15+10,none⟩=some (.bool d.body.yes) from hc 10 _ rfl)
   have y11:=hcl _ _ (show w.cell? ⟨b,off+j * 15+11,none⟩=some (.slice ae d.body.kids.length ce) from hc 11 _ rfl)
   have y12:=hcl _ _ (show w.cell? ⟨b,off+j * 15+12,none⟩=some (.int .i64 d.body.at_) from hc 12 _ rfl)
   have y13:=hcl _ _ (show w.cell? ⟨b,off+j * 15+13,none⟩=some (.int .i64 d.res.at_) from hc 13 _ rfl)
   have y14:=hcl _ _ (show w.cell? ⟨b,off+j * 15+14,none⟩=some (.int .i64 d.res.bare) from hc 14 _ rfl)
   have hdb:=heap_alloc_new wr (.cells #[.bool d.pub,.string ⟨d.res.name.toArray⟩,.slice ap d.params.length cp,.int .i64 d.res.base,.slice ac d.res.clause.length cc,.int .i64 d.body.op,.string ⟨d.body.name.toArray⟩,.string ⟨d.body.module.toArray⟩,.bool (decide (d.body.num<0)),.slice am wn cm,.bool d.body.yes,.slice ae d.body.kids.length ce,.int .i64 d.body.at_,.int .i64 d.res.at_,.int .i64 d.res.bare] 54)
   have hblA:=hbl.alloc hzr (.cells #[.bool d.pub,.string ⟨d.res.name.toArray⟩,.slice ap d.params.length cp,.int .i64 d.res.base,.slice ac d.res.clause.length cc,.int .i64 d.body.op,.string ⟨d.body.name.toArray⟩,.string ⟨d.body.module.toArray⟩,.bool (decide (d.body.num<0)),.slice am wn cm,.bool d.body.yes,.slice ae d.body.kids.length ce,.int .i64 d.body.at_,.int .i64 d.res.at_,.int .i64 d.res.bare] 54)
   have hrowA:=hrow.alloc (.cells #[.bool d.pub,.string ⟨d.res.name.toArray⟩,.slice ap d.params.length cp,.int .i64 d.res.base,.slice ac d.res.clause.length cc,.int .i64 d.body.op,.string ⟨d.body.name.toArray⟩,.string ⟨d.body.module.toArray⟩,.bool (decide (d.body.num<0)),.slice am wn cm,.bool d.body.yes,.slice ae d.body.kids.length ce,.int .i64 d.body.at_,.int .i64 d.res.at_,.int .i64 d.res.bare] 54)
   have hneD:some wr.heap.size≠(Value.slice vo acc.length vc).ownBlock:=fun q=>by have:=(hrow.lt _ q.symm).2;omega
   obtain ⟨ap',cp',hv3,hcap3,hform3⟩:=hpr.form
   simp only [Value.slice.injEq] at hv3
   obtain ⟨rfl,-,rfl⟩:=hv3
   have HF3:=Lib.hid hform3
   have HSN:=Lib.hid hsn
   clear hkid hc hcl hsn hbe hcr hpr hform3 hds
   go_upto_region 5 with fail
   clear y0 y1 y2 y3 y4 y5 y6 y7 y8 y9 y10 y11 y12 y13 y14
   generalize hdbn:wr.heap.size=db at hdb hneD ⊢
   generalize wr.alloc _=wA at hdb hblA hrowA ⊢
   have hdbw:w.heap.size≤db:=by omega
   have HDC:Hid (∀ W:World,W.heap[db]?=some _→_):=Lib.hid (fun W (hW:W.heap[db]?=some (.cells #[.bool d.pub,.string ⟨d.res.name.toArray⟩,.slice ap d.params.length cp,.int .i64 d.res.base,.slice ac d.res.clause.length cc,.int .i64 d.body.op,.string ⟨d.body.name.toArray⟩,.string ⟨d.body.module.toArray⟩,.bool (decide (d.body.num<0)),.slice am wn cm,.bool d.body.yes,.slice ae d.body.kids.length ce,.int .i64 d.body.at_,.int .i64 d.res.at_,.int .i64 d.res.bare] 54 (0,0)))=>def_cells hW)
   obtain ⟨_,_,z2,_⟩:=HDC.out _ hdb
   clear hdbn hrow hbl
   go_wp2
   clear z2
   go_loopw [3,18] (fun v q wr=>∃ (k:Nat) (ac2:List Int),k≤d.params.length∧q=.int .i64 k∧ac2=acc++(d.params.take k).flatMap FF.bares∧wr.ownsRow w.heap.size 3 1 v ac2.length (ac2.map (Value.int .i64))∧Below w.heap.size w wr∧wr.heap[db]?=some (.cells #[.bool d.pub,.string ⟨d.res.name.toArray⟩,.slice ap d.params.length cp,.int .i64 d.res.base,.slice ac d.res.clause.length cc,.int .i64 d.body.op,.string ⟨d.body.name.toArray⟩,.string ⟨d.body.module.toArray⟩,.bool (decide (d.body.num<0)),.slice am wn cm,.bool d.body.yes,.slice ae d.body.kids.length ce,.int .i64 d.body.at_,.int .i64 d.res.at_,.int .i64 d.res.bare] 54 (0,0))∧some db≠v.ownBlock) (fun _ q _=>d.params.length - (intOf q).toNat)
   case atStart=>exact ⟨0,acc,Nat.zero_le _,rfl,by simp,hrowA,hblA,hdb,hneD⟩
   case round =>
    clear hrowA hblA hdb hneD
    obtain ⟨k,ac2,hk,rfl,hac2,hrow,hbl,hdb,hneD⟩:=hrel
    obtain ⟨vo,vc,rfl⟩:=own_slice hrow
    have hzr:=hbl.size
    have hlac:ac2.length≤600:=by
     have:=pbares_len (d.params.take k)
     rw [List.length_take] at this
     rw [hac2,List.length_append]
     omega
    have hdbl:=(Array.getElem?_eq_some_iff.1 hdb).1
    by_cases hlt3:k<d.params.length
    ·obtain ⟨b3,o3,rfl,hb3B,hb3w,hkid3⟩:=HF3.out (by omega)
     obtain ⟨cv3,hcr3,hc3⟩:=hkid3 k hlt3
     have hsn3:d.params.take (k+1)=d.params.take k++[d.params[k]]:=List.take_succ_eq_append_getElem hlt3
     have hkI:(k:Int)<(d.params.length:Int):=by omega
     generalize d.params[k]=f at hcr3 hc3 hsn3
     obtain ⟨ac3,cc3,rfl⟩:=RowK.slice (show RowK (EK XA) (fun b=>b<B) w cv3 f.clause from hcr3)
     have hcl:∀ (c:Nat) (u:Value),w.cell? ⟨b3,c,none⟩=some u→wr.cell? ⟨b3,c,none⟩=some u:=fun c u hu=>(hbl.cell (p:=⟨b3,c,none⟩) hb3w).trans hu
     have v0:=hcl _ _ (show w.cell? ⟨b3,o3+k * 5,none⟩=some (.string ⟨f.name.toArray⟩) from hc3 0 _ rfl)
     have v1:=hcl _ _ (show w.cell? ⟨b3,o3+k * 5+1,none⟩=some (.int .i64 f.base) from hc3 1 _ rfl)
     have v2:=hcl _ _ (show w.cell? ⟨b3,o3+k * 5+2,none⟩=some (.slice ac3 f.clause.length cc3) from hc3 2 _ rfl)
     have v3:=hcl _ _ (show w.cell? ⟨b3,o3+k * 5+3,none⟩=some (.int .i64 f.at_) from hc3 3 _ rfl)
     have v4:=hcl _ _ (show w.cell? ⟨b3,o3+k * 5+4,none⟩=some (.int .i64 f.bare) from hc3 4 _ rfl)
     have hpx:=heap_alloc_new wr (.cells #[.string ⟨f.name.toArray⟩,.int .i64 f.base,.slice ac3 f.clause.length cc3,.int .i64 f.at_,.int .i64 f.bare] 56)
     have hblB:=hbl.alloc hzr (.cells #[.string ⟨f.name.toArray⟩,.int .i64 f.base,.slice ac3 f.clause.length cc3,.int .i64 f.at_,.int .i64 f.bare] 56)
     have hrowB:=hrow.alloc (.cells #[.string ⟨f.name.toArray⟩,.int .i64 f.base,.slice ac3 f.clause.length cc3,.int .i64 f.at_,.int .i64 f.bare] 56)
     have hdbB:=(Lib.alloc_old wr (.cells #[.string ⟨f.name.toArray⟩,.int .i64 f.base,.slice ac3 f.clause.length cc3,.int .i64 f.at_,.int .i64 f.bare] 56) db hdbl).trans hdb
     have HSN3:=Lib.hid hsn3
     have HAC:=Lib.hid hac2
     clear hkid3 hc3 hcl hcr3 hsn3 hac2
     go_upto_region 8 with fail
     clear v0 v1 v2 v3 v4 hrow hbl hdb
     generalize wr.heap.size=px at hpx ⊢
     generalize wr.alloc _=wB at hpx hblB hrowB hdbB ⊢
     obtain ⟨_,_,_,_,u4,_⟩:=par_cells hpx
     have hzB:=hblB.size
     have hdbl:=(Array.getElem?_eq_some_iff.1 hdbB).1
     by_cases h0:0≤f.bare
     ·have HB0:=Lib.hid (FF.bares_yes h0)
      go_wp2_with (at_builtin;refine wpList_append_lies _ rfl _ _ 71 rfl w.heap.size 3 i0 (.int .i64 0) 1 8 Tryz.underlying71 hi0 hi1 hi2 hi3 rfl (by decide) _ ac2.length _ rfl (hrowB.alloc _) ⟨wB.heap.size,0,none⟩ 1 1 [.int .i64 f.bare] rfl rfl (World.news_of_block (cs:=#[.int .i64 f.bare]) (t:=3) (fr:=(0,0)) (heap_alloc_new wB _)) (by simp [Value.oneCell']) (by omega) (by unfold maxLen;omega) (by omega) (by first|omega|(simp;omega)) (wB.heap.size+1) (by simp) ?_)
      intro gg cap5 w5 hown5 hgrow5 hat5 hlt5
      have hdb5:=(hgrow5.block db (by simp;omega) hneD).trans ((Lib.alloc_old wB _ db hdbl).trans hdbB)
      have hbl5:=(hblB.alloc hzB _).grown hgrow5 (by simp;omega) (fun q hq=>(hrowB.lt q hq).1)
      clear hgrow5 u4
      go_wp2
      go_roundw
      case rel =>
       refine ⟨k+1,ac2++[f.bare],by omega,by go_num,?_,?_,hbl5,hdb5,?_⟩
       ·rw [HSN3.out,List.flatMap_append,← List.append_assoc,← HAC.out];simp [HB0.out]
       ·rw [List.length_append,List.map_append];exact hown5
       ·intro q
        simp only [Value.ownBlock,Option.some.injEq] at q
        rcases hat5 with q2|q2
        ·exact hneD (by rw [q2,q])
        ·omega
      case measure=>simp [intOf];omega
     ·have HB0:=Lib.hid (FF.bares_no h0)
      go_wp2
      go_roundw
      case rel=>exact ⟨k+1,ac2,by omega,by go_num,by rw [HSN3.out,List.flatMap_append,← List.append_assoc,← HAC.out];simp [HB0.out],hrowB,hblB,hdbB,hneD⟩
      case measure=>simp [intOf];omega
    ·obtain rfl:k=d.params.length:=by omega
     rw [List.take_length] at hac2
     have hkI:decide ((d.params.length:Int)<(d.params.length:Int))=false:=decide_eq_false (by omega)
     obtain ⟨_,_,_,_,_,_,_,_,_,_,_,_,_,_,z14⟩:=HDC.out _ hdb
     have HAC:=Lib.hid hac2
     have HA0:=Lib.hid hacc
     clear hac2 hacc
     by_cases h0:0≤d.res.bare
     ·have HB0:=Lib.hid (FF.bares_yes h0)
      go_wp2_with (at_builtin;refine wpList_append_lies _ rfl _ _ 71 rfl w.heap.size 3 i0 (.int .i64 0) 1 8 Tryz.underlying71 hi0 hi1 hi2 hi3 rfl (by decide) _ ac2.length _ rfl (hrow.alloc _) ⟨wr.heap.size,0,none⟩ 1 1 [.int .i64 d.res.bare] rfl rfl (World.news_of_block (cs:=#[.int .i64 d.res.bare]) (t:=3) (fr:=(0,0)) (heap_alloc_new wr _)) (by simp [Value.oneCell']) (by omega) (by unfold maxLen;omega) (by omega) (by first|omega|(simp;omega)) (wr.heap.size+1) (by simp) ?_)
      intro gg cap5 w5 hown5 hgrow5 hat5 hlt5
      have hbl5:=(hbl.alloc hzr _).grown hgrow5 (by simp;omega) (fun q hq=>(hrow.lt q hq).1)
      clear hgrow5 z14
      go_wp2
      go_roundw
      case rel =>
       refine ⟨j+1,ac2++[d.res.bare],by omega,by go_num,?_,?_,hbl5⟩
       ·rw [HSN.out,List.flatMap_append,← HA0.out,HAC.out];simp [DD.bares,HB0.out]
       ·rw [List.length_append,List.map_append];exact hown5
      case measure=>simp [intOf];omega
     ·have HB0:=Lib.hid (FF.bares_no h0)
      go_wp2
      go_roundw
      case rel=>exact ⟨j+1,ac2,by omega,by go_num,by rw [HSN.out,List.flatMap_append,← HA0.out,HAC.out];simp [DD.bares,HB0.out],hrow,hbl⟩
      case measure=>simp [intOf];omega
  ·obtain rfl:j=p.defs.length:=by omega
   have hjI:decide ((p.defs.length:Int)<(p.defs.length:Int))=false:=decide_eq_false (by omega)
   rw [List.take_length] at hacc
   subst hacc
   go_wp2
   go_ret
   exact ⟨_,rfl,hrow,hbl⟩
def rdCells (d:DD)(ap:Option Addr)(cp:Nat)(ac:Option Addr)(cc:Nat)(ae:Option Addr)(ce:Nat):Array Value :=
 #[.bool d.pub,.slice ap d.params.length cp,.string ⟨d.res.name.toArray⟩,.int .i64 d.res.base,.slice ac d.res.clause.length cc,.int .i64 d.res.at_,.int .i64 d.res.bare,.int .i64 d.body.op,.string ⟨d.body.name.toArray⟩,.string ⟨d.body.module.toArray⟩,.string ⟨d.body.txt.toArray⟩,.bool d.body.yes,.slice ae d.body.kids.length ce,.int .i64 d.body.at_]
theorem cells2T {w:World}{b:Nat}{c0 c1:Value}{T:TypeId}(h:w.heap[b]?=some (.cells #[c0,c1] T (0,0))):w.cell? ⟨b,0,none⟩=some c0∧w.cell? ⟨b,1,none⟩=some c1∧∀ j,w.frozen? ⟨b,j,none⟩=false:=by
 refine ⟨?_,?_,fun j=>by simp [World.frozen?,h]⟩ <;> (rw [Lib.cell_of_heap h];rfl)
theorem own_mono {w:World}{C C' e sz n:Nat}{v:Value}{cs:List Value}(h:w.ownsRow C e sz v n cs)(hb:C'≤C):w.ownsRow C' e sz v n cs :=
 ⟨h.1,h.2.imp id fun ⟨g,cap,cur,h1,h2,h3⟩=>⟨g,cap,cur,h1,Nat.le_trans hb h2,h3⟩⟩
def DD.slot (d:DD)(k:Nat):FF:=if h:k<d.params.length then d.params[k] else d.res
theorem DD.slots (d:DD):∀ k,k≤d.params.length→((d.params++[d.res]).take k).flatMap FF.bares++(d.slot k).bares=((d.params++[d.res]).take (k+1)).flatMap FF.bares:=fun k hk=>by
 have h:k<(d.params++[d.res]).length:=by simp;omega
 rw [List.take_succ_eq_append_getElem h,List.flatMap_append]
 congr 1
 unfold DD.slot
 split
 ·rename_i h2
  rw [List.getElem_append_left h2]
  simp
 ·obtain rfl:k=d.params.length:=by omega
  rw [List.getElem_append_right (Nat.le_refl _)]
  simp
theorem rbare_any {M:Nat}(p:PP)(hs:p.small M)(B:Nat)(ai:Option Addr)(ci:Nat)(ad:Option Addr)(cd:Nat)(w:World)
  (h:PAtR (fun b=>b<B) w (.slice ai p.imports.length ci) (.slice ad p.defs.length cd) p) (hB:B≤w.heap.size) :
  Calls Tryz.prog 22 #[.agg #[.slice ai p.imports.length ci,.slice ad p.defs.length cd]] w (BarePost p.bares w):=by
 obtain ⟨i0,hi0,hi1,hi2,hi3⟩:=info_parts Tryz.infoIntA
 obtain ⟨_,hdr⟩:=h
 obtain ⟨ao2,cc2,hv2,hcap2,hform2⟩:=hdr.form
 simp only [Value.slice.injEq] at hv2
 obtain ⟨rfl,-,rfl⟩:=hv2
 have HF2:=Lib.hid hform2
 have hbb:=below_new w (.cells #[.slice ai p.imports.length ci,.slice ad p.defs.length cd] 62)
 have hbox:=heap_alloc_new w (.cells #[.slice ai p.imports.length ci,.slice ad p.defs.length cd] 62)
 have hw1s:w.heap.size<(w.alloc (.cells #[.slice ai p.imports.length ci,.slice ad p.defs.length cd] 62)).heap.size:=by simp
 have hdl:=hs.dfew
 have HS:=Lib.hid hs.defs
 clear hdr hform2 hs
 go_enter Tryz.func22,Tryz.ntmps22
 go_upto_region 1 with fail
 generalize w.alloc _=w1 at hbb hbox hw1s ⊢
 go_wp2
 go_loopw [3,4] (fun v q wr=>∃ (j:Nat) (acc:List Int),j≤p.defs.length∧q=.int .i64 j∧acc=(p.defs.take j).flatMap DD.bares∧wr.ownsRow w1.heap.size 3 1 v acc.length (acc.map (Value.int .i64))∧Below w1.heap.size w1 wr) (fun _ q _=>p.defs.length - (intOf q).toNat)
 case atStart=>exact ⟨0,[],Nat.zero_le _,rfl,rfl,World.ownsRow_nil _ _ _ _,Below.refl _ _⟩
 case round =>
  obtain ⟨j,acc,hj,rfl,hacc,hrow,hbl⟩:=hrel
  obtain ⟨vo,vc,rfl⟩:=own_slice hrow
  have hzr:=hbl.size
  have hbox1:=(hbl.block w.heap.size hw1s).trans hbox
  obtain ⟨c0,c1,_⟩:=cells2T hbox1
  have haccl:acc.length≤576:=by rw [hacc];exact dbares_len (M:=M) (fun d hd=>HS.out d (List.mem_of_mem_take hd)) (by rw [List.length_take];omega)
  have HA0:=Lib.hid hacc
  clear hacc
  by_cases hlt:j<p.defs.length
  ·obtain ⟨b,off,rfl,hbB,hbw,hkid⟩:=HF2.out (by omega)
   obtain ⟨⟨pv,cv,bm,bk⟩,⟨hpr,hcr,hbe⟩,hc⟩:=hkid j hlt
   have hmem:p.defs[j]∈p.defs:=List.getElem_mem hlt
   have hsn:p.defs.take (j+1)=p.defs.take j++[p.defs[j]]:=List.take_succ_eq_append_getElem hlt
   have hjI:(j:Int)<(p.defs.length:Int):=by omega
   have hds:=HS.out _ hmem
   have hd8:=hds.few
   generalize p.defs[j]=d at hpr hcr hbe hc hsn hds hd8
   obtain ⟨ap,cp,rfl⟩:=hpr.slice
   obtain ⟨ac,cc,rfl⟩:=hcr.slice
   obtain ⟨_,ae,ce,rfl,_⟩:=EAt.form hbe
   have hbw1:Below w.heap.size w wr:=hbb.trans (hbl.mono (by omega))
   have hcl:∀ (c:Nat) (u:Value),w.cell? ⟨b,c,none⟩=some u→wr.cell? ⟨b,c,none⟩=some u:=fun c u hu=>(hbw1.cell (p:=⟨b,c,none⟩) hbw).trans hu
   have y0:=hcl _ _ (show w.cell? ⟨b,off+j * 14,none⟩=some (.bool d.pub) from hc 0 _ rfl)
   have y1:=hcl _ _ (show w.cell? ⟨b,off+j * 14+1,none⟩=some (.slice ap d.params.length cp) from hc 1 _ rfl)
   have y2:=hcl _ _ (show w.cell? ⟨b,off+j * 14+2,none⟩=some (.string ⟨d.res.name.toArray⟩) from hc 2 _ rfl)
   have y3:=hcl _ _ (show w.cell? ⟨b,off+j * 14+3,none⟩=some (.int .i64 d.res.base) from hc 3 _ rfl)
   have y4:=hcl _ _ (show w.cell? ⟨b,off+j * 14+4,none⟩=some (.slice ac d.res.clause.length cc) from hc 4 _ rfl)
   have y5:=hcl _ _ (show w.cell? ⟨b,off+j * 14+5,none⟩=some (.int .i64 d.res.at_) from hc 5 _ rfl)
   have y6:=hcl _ _ (show w.cell? ⟨b,off+j * 14+6,none⟩=some (.int .i64 d.res.bare) from hc 6 _ rfl)
   have y7:=hcl _ _ (show w.cell? ⟨b,off+j * 14+7,none⟩=some (.int .i64 d.body.op) from hc 7 _ rfl)
   have y8:=hcl _ _ (show w.cell? ⟨b,off+j * 14+8,none⟩=some (.string ⟨d.body.name.toArray⟩) from hc 8 _ rfl)
   have y9:=hcl _ _ (show w.cell? ⟨b,off+j * 14+9,none⟩=some (.string ⟨d.body.module.toArray⟩) from hc 9 _ rfl)
   have y10:=hcl _ _ (show w.cell? ⟨b,off+j * 14+10,none⟩=some (.string ⟨d.body.txt.toArray⟩) from hc 10 _ rfl)
   have y11:=hcl _ _ (show w.cell? ⟨b,off+j * 14+11,none⟩=some (.bool d.body.yes) from hc 11 _ rfl)
   have y12:=hcl _ _ (show w.cell? ⟨b,off+j * 14+12,none⟩=some (.slice ae d.body.kids.length ce) from hc 12 _ rfl)
   have y13:=hcl _ _ (show w.cell? ⟨b,off+j * 14+13,none⟩=some (.int .i64 d.body.at_) from hc 13 _ rfl)
   have hdb:=heap_alloc_new wr (.cells (rdCells d ap cp ac cc ae ce) 80)
   have hblA:=hbl.alloc hzr (.cells (rdCells d ap cp ac cc ae ce) 80)
   have hrowA:=hrow.alloc (.cells (rdCells d ap cp ac cc ae ce) 80)
   have hneD:some wr.heap.size≠(Value.slice vo acc.length vc).ownBlock:=fun q=>by have:=(hrow.lt _ q.symm).2;omega
   obtain ⟨ap',cp',hv3,hcap3,hform3⟩:=hpr.form
   simp only [Value.slice.injEq] at hv3
   obtain ⟨rfl,-,rfl⟩:=hv3
   have HF3:=Lib.hid hform3
   have HSN:=Lib.hid hsn
   clear hkid hc hcl hsn hbe hcr hpr hform3 hds hbox1
   go_upto_region 6 with fail
   clear y0 y1 y2 y3 y4 y5 y6 y7 y8 y9 y10 y11 y12 y13 c0 c1
   change Code.wp _ _ _ _ (wr.alloc (.cells (rdCells d ap cp ac cc ae ce) 80))
   generalize hdbn:wr.heap.size=db at hdb hneD ⊢
   generalize wr.alloc _=wA at hdb hblA hrowA ⊢
   have hdbw:w1.heap.size≤db:=by omega
   clear hdbn hrow hbl hbw1
   go_wp2
   go_loopw [3,6] (fun v q wr=>∃ (k:Nat) (ac2:List Int),k≤d.params.length+1∧q=.int .i64 k∧ac2=acc++((d.params++[d.res]).take k).flatMap FF.bares∧wr.ownsRow w1.heap.size 3 1 v ac2.length (ac2.map (Value.int .i64))∧Below w1.heap.size w1 wr∧wr.heap[db]?=some (.cells (rdCells d ap cp ac cc ae ce) 80 (0,0))∧some db≠v.ownBlock) (fun _ q _=>d.params.length+1 - (intOf q).toNat)
   case atStart=>exact ⟨0,acc,Nat.zero_le _,rfl,by simp,hrowA,hblA,hdb,hneD⟩
   case round =>
    clear hrowA hblA hdb hneD
    obtain ⟨k,ac2,hk,rfl,hac2,hrow,hbl,hdb,hneD⟩:=hrel
    obtain ⟨vo,vc,rfl⟩:=own_slice hrow
    have hzr:=hbl.size
    have hlac:ac2.length≤600:=by
     have:=pbares_len ((d.params++[d.res]).take k)
     rw [List.length_take] at this
     rw [hac2,List.length_append]
     omega
    have hdbl:=(Array.getElem?_eq_some_iff.1 hdb).1
    obtain ⟨⟨z0,z1,z2,z3,z4,z5,z6⟩,_⟩:=fdef_cells hdb
    by_cases hlt3:k<d.params.length+1
    ·have hkI:(k:Int)≤(d.params.length:Int):=by omega
     have hsl:=d.slots k (by omega)
     rw [← List.append_cancel_left_eq acc,← List.append_assoc,← hac2] at hsl
     have HSL:=Lib.hid hsl
     clear hsl hac2
     have hpx0:=heap_alloc_new wr (.cells #[.string ⟨d.res.name.toArray⟩,.int .i64 d.res.base,.slice ac d.res.clause.length cc,.int .i64 d.res.at_,.int .i64 d.res.bare] 76)
     have hblB:=hbl.alloc hzr (.cells #[.string ⟨d.res.name.toArray⟩,.int .i64 d.res.base,.slice ac d.res.clause.length cc,.int .i64 d.res.at_,.int .i64 d.res.bare] 76)
     have hrowB:=hrow.alloc (.cells #[.string ⟨d.res.name.toArray⟩,.int .i64 d.res.base,.slice ac d.res.clause.length cc,.int .i64 d.res.at_,.int .i64 d.res.bare] 76)
     have hdbB:=(Lib.alloc_old wr (.cells #[.string ⟨d.res.name.toArray⟩,.int .i64 d.res.base,.slice ac d.res.clause.length cc,.int .i64 d.res.at_,.int .i64 d.res.bare] 76) db hdbl).trans hdb
     have hneP:some wr.heap.size≠(Value.slice vo ac2.length vc).ownBlock:=fun q=>by have:=(hrow.lt _ q.symm).2;omega
     have hpw:w1.heap.size≤wr.heap.size:=hzr
     have hnd:db≠wr.heap.size:=by omega
     go_upto_region 10 with fail
     clear z0 z1 z2 z3 z4 z5 z6
     obtain ⟨px,hpxe⟩:∃ px,px=wr.heap.size:=⟨_,rfl⟩
     rw [← hpxe] at hpx0 hneP hpw hnd ⊢
     generalize wr.alloc _=wB at hpx0 hblB hrowB hdbB ⊢
     have hbw2:Below w.heap.size w wB:=hbb.trans (hblB.mono (by omega))
     have hpl:=(Array.getElem?_eq_some_iff.1 hpx0).1
     obtain ⟨u0,u1,u2,u3,u4,uz⟩:=cells5 hpx0
     obtain ⟨⟨z0,z1,z2,z3,z4,z5,z6⟩,_⟩:=fdef_cells hdbB
     clear hrow hbl hdb hpxe
     go_upto_if 33 with fail
     generalize ht:decide (k<d.params.length)=t
     go_cut [7] (fun v wc=>v=.pointer (some ⟨px,0,none⟩)∧∃ nv bv cv3 av,wc.heap[px]?=some (.cells #[nv,bv,cv3,av,.int .i64 (d.slot k).bare] 76 (0,0))∧wc.ownsRow w1.heap.size 3 1 (.slice vo ac2.length vc) ac2.length (ac2.map (Value.int .i64))∧Below w1.heap.size w1 wc∧wc.heap[db]?=some (.cells (rdCells d ap cp ac cc ae ce) 80 (0,0)))
     case first =>
      cases t with
      | false =>
       have hge:¬ k<d.params.length:=of_decide_eq_false ht
       go_wp2
       go_meet
       refine ⟨rfl,.string ⟨d.res.name.toArray⟩,.int .i64 d.res.base,.slice ac d.res.clause.length cc,.int .i64 d.res.at_,?_,hrowB,hblB,hdbB⟩
       rw [DD.slot,dif_neg hge]
       exact hpx0
      | true =>
       have hlt4:k<d.params.length:=of_decide_eq_true ht
       clear ht
       obtain ⟨b3,o3,rfl,hb3B,hb3w,hkid3⟩:=HF3.out (by omega)
       obtain ⟨cv3,hcr3,hc3⟩:=hkid3 k hlt4
       have hsl2:d.slot k=d.params[k]:=by rw [DD.slot,dif_pos hlt4]
       have hkI2:(k:Int)<(d.params.length:Int):=by omega
       generalize d.params[k]=f at hcr3 hc3 hsl2
       obtain ⟨ac3,cc3,rfl⟩:=RowK.slice (show RowK (EK XR) (fun b=>b<B) w cv3 f.clause from hcr3)
       have hcl:∀ (c:Nat) (u:Value),w.cell? ⟨b3,c,none⟩=some u→wB.cell? ⟨b3,c,none⟩=some u:=fun c u hu=>(hbw2.cell (p:=⟨b3,c,none⟩) hb3w).trans hu
       have v0:=hcl _ _ (show w.cell? ⟨b3,o3+k * 5,none⟩=some (.string ⟨f.name.toArray⟩) from hc3 0 _ rfl)
       have v1:=hcl _ _ (show w.cell? ⟨b3,o3+k * 5+1,none⟩=some (.int .i64 f.base) from hc3 1 _ rfl)
       have v2:=hcl _ _ (show w.cell? ⟨b3,o3+k * 5+2,none⟩=some (.slice ac3 f.clause.length cc3) from hc3 2 _ rfl)
       have v3:=hcl _ _ (show w.cell? ⟨b3,o3+k * 5+3,none⟩=some (.int .i64 f.at_) from hc3 3 _ rfl)
       have v4:=hcl _ _ (show w.cell? ⟨b3,o3+k * 5+4,none⟩=some (.int .i64 f.bare) from hc3 4 _ rfl)
       have hpx5:=heap_setCell_same _ px 4 _ _ (.int .i64 f.bare) (heap_setCell_same _ px 3 _ _ (.int .i64 f.at_) (heap_setCell_same _ px 2 _ _ (.slice ac3 f.clause.length cc3) (heap_setCell_same _ px 1 _ _ (.int .i64 f.base) (heap_setCell_same wB px 0 _ _ (.string ⟨f.name.toArray⟩) hpx0))))
       have HP5:=Lib.hid hpx5
       have HSL2:=Lib.hid hsl2
       clear hkid3 hc3 hcl hcr3 hsl2 hpx5
       go_wp2
       go_meet
       refine ⟨rfl,.string ⟨f.name.toArray⟩,.int .i64 f.base,.slice ac3 f.clause.length cc3,.int .i64 f.at_,?_,?_,?_,?_⟩
       ·rw [HSL2.out];exact HP5.out
       ·exact own_set (own_set (own_set (own_set (own_set hrowB hneP _) hneP _) hneP _) hneP _) hneP _
       ·exact ((((hblB.setCell hpw _).setCell hpw _).setCell hpw _).setCell hpw _).setCell hpw _
       ·exact (heap_setCell_other _ _ _ _ hnd).trans ((heap_setCell_other _ _ _ _ hnd).trans ((heap_setCell_other _ _ _ _ hnd).trans ((heap_setCell_other _ _ _ _ hnd).trans ((heap_setCell_other _ _ _ _ hnd).trans hdbB))))
     case rest =>
      clear u0 u1 u2 u3 u4 uz z0 z1 z2 z3 z4 z5 z6 hpx0 hblB hrowB hdbB hbw2 hpl ht
      obtain ⟨rfl,nv,bv,cv3,av,hpx,hrow,hbl,hdb⟩:=hcut
      obtain ⟨wB,rfl⟩:∃ wB:World,wB=wc:=⟨_,rfl⟩
      obtain ⟨_,_,_,_,u4,_⟩:=cells5 hpx
      have hzB:=hbl.size
      have hdbl:=(Array.getElem?_eq_some_iff.1 hdb).1
      have hpl:=(Array.getElem?_eq_some_iff.1 hpx).1
      generalize d.slot k=f at HSL u4 hpx
      by_cases h0:0≤f.bare
      ·have HB0:=Lib.hid (FF.bares_yes h0)
       go_wp2_with (at_builtin;refine wpList_append_lies _ rfl _ _ 71 rfl w1.heap.size 3 i0 (.int .i64 0) 1 8 Tryz.underlying71 hi0 hi1 hi2 hi3 rfl (by decide) _ ac2.length _ rfl (hrow.alloc _) ⟨wB.heap.size,0,none⟩ 1 1 [.int .i64 f.bare] rfl rfl (World.news_of_block (cs:=#[.int .i64 f.bare]) (t:=3) (fr:=(0,0)) (heap_alloc_new wB _)) (by simp [Value.oneCell']) (by omega) (by unfold maxLen;omega) (by omega) (by first|omega|(simp;omega)) (wB.heap.size+1) (by simp) ?_)
       intro gg cap5 w5 hown5 hgrow5 hat5 hlt5
       have hdb5:=(hgrow5.block db (by simp;omega) hneD).trans ((Lib.alloc_old wB _ db hdbl).trans hdb)
       have hbl5:=(hbl.alloc hzB _).grown hgrow5 (by simp;omega) (fun q hq=>(hrow.lt q hq).1)
       clear hgrow5 u4
       go_wp2
       go_roundw
       case rel =>
        refine ⟨k+1,ac2++[f.bare],by omega,by go_num,?_,?_,hbl5,hdb5,?_⟩
        ·rw [← HSL.out,HB0.out]
        ·rw [List.length_append,List.map_append];exact hown5
        ·intro q
         simp only [Value.ownBlock,Option.some.injEq] at q
         rcases hat5 with q2|q2
         ·exact hneD (by rw [q2,q])
         ·omega
       case measure=>simp [intOf];omega
      ·have HB0:=Lib.hid (FF.bares_no h0)
       go_wp2
       go_roundw
       case rel=>exact ⟨k+1,ac2,by omega,by go_num,by rw [← HSL.out,HB0.out,List.append_nil],hrow,hbl,hdb,hneD⟩
       case measure=>simp [intOf];omega
    ·obtain rfl:k=d.params.length+1:=by omega
     rw [List.take_of_length_le (by simp)] at hac2
     have hkI:decide (((d.params.length+1:Nat):Int)≤(d.params.length:Int))=false:=decide_eq_false (by omega)
     have HAC:=Lib.hid hac2
     clear hac2
     go_wp2
     go_roundw
     case rel=>exact ⟨j+1,ac2,by omega,by go_num,by rw [HSN.out,List.flatMap_append,← HA0.out,HAC.out];simp [DD.bares],hrow,hbl⟩
     case measure=>simp [intOf];omega
  ·obtain rfl:j=p.defs.length:=by omega
   have hjI:decide ((p.defs.length:Int)<(p.defs.length:Int))=false:=decide_eq_false (by omega)
   go_wp2
   go_ret
   have hacc:=HA0.out
   rw [List.take_length] at hacc
   subst hacc
   exact ⟨_,rfl,own_mono hrow (by omega),hbb.trans (hbl.mono (by omega))⟩
end Go.Proofs.YtemkhbmkaalgdaaGreatDoor
