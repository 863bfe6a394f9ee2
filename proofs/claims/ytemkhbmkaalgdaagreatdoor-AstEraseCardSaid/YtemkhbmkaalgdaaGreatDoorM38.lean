/- The walks of the code that the claim reaches, and the plain laws: EraseW. No condition of ours. -/
import Derived.Test.YtemkhbmkaalgdaaGreatDoorM37
import Derived.Laws.AppendOwnNone
namespace Go.Proofs.YtemkhbmkaalgdaaGreatDoor
open Go.RowKit Go
def ErPost (q : PP) (w : World) (e : Ending) (w' : World) : Prop :=
  ∃ ai ci ad cd, e = .returned (.agg #[.slice ai q.imports.length ci, .slice ad q.defs.length cd]) ∧ (ai = none → ci = 0) ∧ PAtA (fun b => b < w'.heap.size) w' (.slice ai q.imports.length ci) (.slice ad q.defs.length cd) q ∧ Below w.heap.size w w'
def ErCut (l : List (List UInt8 × Nat)) (w2 : World) (v : Value) (wc : World) : Prop :=
  ∃ (O : Nat) (ai : Option Addr) (ci : Nat), v = .pointer (some ⟨O, 0, none⟩) ∧ wc.heap[O]? = some (.cells #[.slice ai l.length ci, .slice none 0 0] 31 (0, 0)) ∧ RowK IA (fun b => w2.heap.size ≤ b ∧ b ≠ O) wc (.slice ai l.length ci) l ∧ (ai = none → ci = 0) ∧ w2.heap.size ≤ O ∧ Below w2.heap.size w2 wc
theorem ErCut.mk {l : List (List UInt8 × Nat)} {w2 w3 : World} {v : Value} {k : List ((List UInt8 × Nat) × Unit)} {e : Nat} (hk : k.map Prod.fst = l) (ho : w3.ownsRow w2.heap.size e 2 v l.length (IA.flat k)) (hb : Below w2.heap.size w2 w3) : ErCut l w2 (.pointer (some ⟨w3.heap.size, 0, none⟩)) (w3.alloc (.cells #[v, .slice none 0 0] 31)) := by
  have hO : OwnK IA w2.heap.size e w3 v l := ⟨k, hk, ho, fun p hp => trivial⟩
  obtain ⟨ao, cap, rfl⟩ := hO.slice
  refine ⟨w3.heap.size, ao, cap, rfl, heap_alloc_new _ _, ?_, fun q => hO.nilc _ _ (by rw [q]), hb.size, hb.alloc hb.size _⟩
  exact (hO.row.imp (Q := fun b => w2.heap.size ≤ b ∧ b ≠ w3.heap.size) fun b hb hl => ⟨hb, by omega⟩).frame ⟨by simp, fun b _ hl => Lib.alloc_old _ _ _ hl⟩
theorem FK_nil {S : Shape} (f : FF) (P : Nat → Prop) (w : World) : (FK S).inn P w f.erase (.slice none 0 0) := RowK.nil _ _ _
set_option maxHeartbeats 4000000 in
set_option maxRecDepth 100000 in
theorem erase_any (p : PP) (hi16 : p.imports.length ≤ 16) (hd64 : p.defs.length ≤ 64) (hp8 : ∀ d ∈ p.defs, d.params.length ≤ 8) (B : Nat) (ai : Option Addr) (ci : Nat) (ad : Option Addr) (cd : Nat) (w : World)
    (h : PAtA (fun b => b < B) w (.slice ai p.imports.length ci) (.slice ad p.defs.length cd) p) (hB : B ≤ w.heap.size) (hnil : ai = none → ci = 0) :
    Calls Tryz.prog 14 #[.agg #[.slice ai p.imports.length ci, .slice ad p.defs.length cd]] w (ErPost p.erase w) := by
  obtain ⟨ii, hii1, hii2, hii3, hii4⟩ := info_parts Tryz.infoImport
  obtain ⟨id, hid1, hid2, hid3, hid4⟩ := info_parts Tryz.infoDef
  obtain ⟨ip, hip1, hip2, hip3, hip4⟩ := info_parts Tryz.infoParam
  obtain ⟨hir, hdr⟩ := h
  have hbb := (below_new w (.cells #[.slice ai p.imports.length ci, .slice ad p.defs.length cd] 31)).alloc (by simp) (.cells #[.slice none 0 0, .slice none 0 0] 31)
  have g0 := (Lib.alloc_old _ (.cells #[.slice none 0 0, .slice none 0 0] 31) w.heap.size (by simp)).trans (heap_alloc_new w (.cells #[.slice ai p.imports.length ci, .slice ad p.defs.length cd] 31))
  have g1 := heap_alloc_new (w.alloc (.cells #[.slice ai p.imports.length ci, .slice ad p.defs.length cd] 31)) (.cells #[.slice none 0 0, .slice none 0 0] 31)
  rw [World.size_alloc] at g1
  have HP8 := Lib.hid hp8
  obtain ⟨ao', cc', hv, hcap, hform⟩ := hdr.form
  simp only [Value.slice.injEq] at hv
  obtain ⟨rfl, -, rfl⟩ := hv
  have HF := Lib.hid hform
  clear hp8 hform hdr
  obtain ⟨c0, c1⟩ := prog_cells g0
  go_enter Tryz.func14, Tryz.ntmps14
  go_upto_region 1 with fail
  generalize (w.alloc _).alloc _ = w2 at hbb g0 g1 c0 c1 ⊢
  have hz2 := hbb.size
  have hlt2 : w.heap.size + 1 < w2.heap.size := (Array.getElem?_eq_some_iff.1 g1).1
  go_cut [3] (fun v wc => ErCut p.imports w2 v wc)
  case first =>
    obtain ⟨l, hl, ⟨ao, cap, hv, hn, hlen, hc⟩, _⟩ := hir.frame (Alk.ofB hbb fun b hb => Nat.lt_of_lt_of_le hb hB)
    simp only [Value.slice.injEq] at hv
    obtain ⟨rfl, -, rfl⟩ := hv
    have HHL := Lib.hid hl
    clear hl
    cases ai with
    | none =>
      obtain rfl := hnil rfl
      have h0 : p.imports.length = 0 := by
        rcases Nat.eq_zero_or_pos p.imports.length with q | q
        · exact q
        · obtain ⟨_, _, e, _⟩ := hc q
          cases e
      obtain ⟨imps, defs⟩ := p
      obtain rfl : imps = [] := List.length_eq_zero_iff.1 h0
      clear hc hlen hn h0
      go_wp2_with (at_builtin; refine wpList_append_own_none rfl _ _ 28 rfl w2.heap.size 91 ii 2 Tryz.underlying28 hii1 (.slice none 0 0) 0 [] rfl (World.ownsRow_nil _ _ _ _) rfl ?_)
      go_meet
      exact ErCut.mk (e := 91) (k := []) rfl (World.ownsRow_nil _ _ _ _) (Below.refl _ _)
    | some ad0 =>
      have hnews : ∀ j u, (IA.flat l)[j]? = some u → w2.cell? (ad0.add j) = some u := fun j u hj => by
        obtain ⟨h1, h2⟩ := List.getElem?_eq_some_iff.1 hj
        have hl2 : (IA.flat l).length = p.imports.length * 2 := hlen
        obtain ⟨b, off, e, _, _, h3⟩ := hc (by omega)
        have h4 := h3 j h1
        rw [h2] at h4
        obtain rfl := Option.some.inj e
        have ea : (⟨b, off, none⟩ : Addr).add j = ⟨b, off + j, none⟩ := by unfold Addr.add; split <;> simp_all
        rw [ea]
        exact h4
      have HNW := Lib.hid hnews
      clear hc hnews
      go_wp2_with (at_builtin; refine wpList_append_own _ rfl _ _ 28 rfl w2.heap.size 91 ii _ 2 24 Tryz.underlying28 hii1 hii2 hii3 hii4 rfl (by decide) (.slice none 0 0) 0 [] rfl (World.ownsRow_nil _ _ _ _) ad0 p.imports.length ci (IA.flat l) rfl ?c1 HNW.out ?c2 ?c3 ?c4 (Nat.le_refl _) ?_)
      case c1 => exact hlen
      case c2 =>
        intro u hu
        simp only [RK.flat, IA, List.mem_flatMap, List.mem_cons, List.not_mem_nil, or_false] at hu
        obtain ⟨q, _, rfl | rfl⟩ := hu <;> rfl
      case c3 => unfold maxLen; omega
      case c4 => omega
      intro v' w3 hown hgrow _
      obtain ⟨ao2, cap2, rfl⟩ := (show OwnK IA w2.heap.size 91 w3 v' p.imports from ⟨l, HHL.out, hown, fun _ _ => trivial⟩).slice
      have HER := Lib.hid (ErCut.mk HHL.out hown ((Below.refl _ _).grown hgrow (Nat.le_refl _) (fun k q => by cases q)))
      clear hown hgrow hlen
      go_wp2
      go_meet
      exact HER.out
  case rest =>
    obtain ⟨O, ai', ci', rfl, hO, hir3, hnil3, hOl, hbc⟩ := hcut
    obtain ⟨wl, rfl⟩ : ∃ wl : World, wl = wc := ⟨_, rfl⟩
    have hzl := hbc.size
    have hOw := (Array.getElem?_eq_some_iff.1 hO).1
    have H0 := (hbc.block w.heap.size (by omega)).trans g0
    have H1 := (hbc.block (w.heap.size + 1) (by omega)).trans g1
    have hbl0 := hbb.trans (hbc.mono hz2)
    have HNL := Lib.hid hnil3
    have HIR := Lib.hid hir3
    obtain ⟨c0, c1⟩ := prog_cells H0
    clear hbb g0 g1 hbc hnil3 hir hnil hir3
    go_upto_region 3 with fail
    go_loopw [16] (fun q wr => ∃ (j : Nat) (ad' : Option Addr) (cd' : Nat), j ≤ p.defs.length ∧ q = .int .i64 j ∧ Alk (fun b => b < wl.heap.size ∧ b ≠ O) wl wr ∧ wr.heap[O]? = some (.cells #[.slice ai' p.imports.length ci', .slice ad' j cd'] 31 (0, 0)) ∧ OwnQ DA (fun b => b < B ∨ wl.heap.size ≤ b) wl.heap.size 54 wr (.slice ad' j cd') ((p.defs.take j).map DD.erase) ∧ Below w.heap.size w wr) (fun q _ => p.defs.length - (intOf q).toNat)
    case atStart => exact ⟨0, none, 0, Nat.zero_le _, rfl, Alk.refl _ _, hO, by rw [List.take_zero]; exact OwnQ.nil _ _ _ _ _, hbl0⟩
    case round =>
      obtain ⟨j, ad', cd', hj, rfl, halk, hOr, hrow, hbl⟩ := hrel
      have hszr := halk.1
      by_cases hlt : j < p.defs.length
      ·
        obtain ⟨wo, rfl⟩ : ∃ wo : World, wo = wr := ⟨_, rfl⟩
        obtain ⟨b, off, rfl, hbB, hbw, hkid⟩ := HF.out (by omega)
        obtain ⟨⟨pv, cv, bm, bk⟩, ⟨hpr, hcr, hbe⟩, hc⟩ := hkid j hlt
        have hsn : (p.defs.take (j + 1)).map DD.erase = (p.defs.take j).map DD.erase ++ [p.defs[j].erase] := by rw [List.take_succ_eq_append_getElem hlt, List.map_append]; rfl
        have hp8 := HP8.out _ (List.getElem_mem hlt)
        have hjI : (j : Int) < (p.defs.length : Int) := by omega
        generalize p.defs[j] = d at hpr hcr hbe hc hsn hp8
        have hnj : ((p.defs.take j).map DD.erase).length = j := by rw [List.length_map, List.length_take]; omega
        generalize (p.defs.take j).map DD.erase = acc at hrow hsn hnj
        have HNJ := Lib.hid hnj
        have HSN := Lib.hid hsn
        obtain ⟨ap, cp, rfl⟩ := hpr.slice
        obtain ⟨ac, cc, rfl⟩ := hcr.slice
        obtain ⟨am, wn, cm, ae, ce, rfl, rfl⟩ := EAt.slX hbe
        have hcl : ∀ (c : Nat) (u : Value), w.cell? ⟨b, c, none⟩ = some u → wo.cell? ⟨b, c, none⟩ = some u := fun c u hu => (hbl.cell (p := ⟨b, c, none⟩) hbw).trans hu
        have y0 := hcl _ _ (show w.cell? ⟨b, off + j * 15, none⟩ = some (.bool d.pub) from hc 0 _ rfl)
        have y1 := hcl _ _ (show w.cell? ⟨b, off + j * 15 + 1, none⟩ = some (.string ⟨d.res.name.toArray⟩) from hc 1 _ rfl)
        have y2 := hcl _ _ (show w.cell? ⟨b, off + j * 15 + 2, none⟩ = some (.slice ap d.params.length cp) from hc 2 _ rfl)
        have y3 := hcl _ _ (show w.cell? ⟨b, off + j * 15 + 3, none⟩ = some (.int .i64 d.res.base) from hc 3 _ rfl)
        have y4 := hcl _ _ (show w.cell? ⟨b, off + j * 15 + 4, none⟩ = some (.slice ac d.res.clause.length cc) from hc 4 _ rfl)
        have y5 := hcl _ _ (show w.cell? ⟨b, off + j * 15 + 5, none⟩ = some (.int .i64 d.body.op) from hc 5 _ rfl)
        have y6 := hcl _ _ (show w.cell? ⟨b, off + j * 15 + 6, none⟩ = some (.string ⟨d.body.name.toArray⟩) from hc 6 _ rfl)
        have y7 := hcl _ _ (show w.cell? ⟨b, off + j * 15 + 7, none⟩ = some (.string ⟨d.body.module.toArray⟩) from hc 7 _ rfl)
        have y8 := hcl _ _ (show w.cell? ⟨b, off + j * 15 + 8, none⟩ = some (.bool (decide (d.body.num < 0))) from hc 8 _ rfl)
        have y9 := hcl _ _ (show w.cell? ⟨b, off + j * 15 + 9, none⟩ = some (.slice am wn cm) from hc 9 _ rfl)
        have y10 := hcl _ _ (show w.cell? ⟨b, off + j * 15 + 10, none⟩ = some (.bool d.body.yes) from hc 10 _ rfl)
        have y11 := hcl _ _ (show w.cell? ⟨b, off + j * 15 + 11, none⟩ = some (.slice ae d.body.kids.length ce) from hc 11 _ rfl)
        have y12 := hcl _ _ (show w.cell? ⟨b, off + j * 15 + 12, none⟩ = some (.int .i64 d.body.at_) from hc 12 _ rfl)
        have y13 := hcl _ _ (show w.cell? ⟨b, off + j * 15 + 13, none⟩ = some (.int .i64 d.res.at_) from hc 13 _ rfl)
        have y14 := hcl _ _ (show w.cell? ⟨b, off + j * 15 + 14, none⟩ = some (.int .i64 d.res.bare) from hc 14 _ rfl)
        have T0 := heap_alloc_new wo (.cells #[.bool d.pub, .string ⟨d.res.name.toArray⟩, .slice ap d.params.length cp, .int .i64 d.res.base, .slice ac d.res.clause.length cc, .int .i64 d.body.op, .string ⟨d.body.name.toArray⟩, .string ⟨d.body.module.toArray⟩, .bool (decide (d.body.num < 0)), .slice am wn cm, .bool d.body.yes, .slice ae d.body.kids.length ce, .int .i64 d.body.at_, .int .i64 d.res.at_, .int .i64 d.res.bare] 54)
        have hb0 := below_new wo (.cells #[.bool d.pub, .string ⟨d.res.name.toArray⟩, .slice ap d.params.length cp, .int .i64 d.res.base, .slice ac d.res.clause.length cc, .int .i64 d.body.op, .string ⟨d.body.name.toArray⟩, .string ⟨d.body.module.toArray⟩, .bool (decide (d.body.num < 0)), .slice am wn cm, .bool d.body.yes, .slice ae d.body.kids.length ce, .int .i64 d.body.at_, .int .i64 d.res.at_, .int .i64 d.res.bare] 54)
        obtain ⟨ap', cp', hv3, hcap3, hform3⟩ := hpr.form
        simp only [Value.slice.injEq] at hv3
        obtain ⟨rfl, -, rfl⟩ := hv3
        have HF3 := Lib.hid hform3
        clear hkid hc hcl hpr hcr hform3 hsn hnj H1
        go_upto_region 5 with fail
        clear y0 y1 y2 y3 y4 y5 y6 y7 y8 y9 y10 y11 y12 y13 y14
        have hDl : wo.heap.size < (wo.alloc (.cells #[.bool d.pub, .string ⟨d.res.name.toArray⟩, .slice ap d.params.length cp, .int .i64 d.res.base, .slice ac d.res.clause.length cc, .int .i64 d.body.op, .string ⟨d.body.name.toArray⟩, .string ⟨d.body.module.toArray⟩, .bool (decide (d.body.num < 0)), .slice am wn cm, .bool d.body.yes, .slice ae d.body.kids.length ce, .int .i64 d.body.at_, .int .i64 d.res.at_, .int .i64 d.res.bare] 54)).heap.size := by simp
        generalize hD : wo.heap.size = D at T0 hb0 hDl ⊢
        generalize wo.alloc _ = wa at T0 hb0 hDl ⊢
        obtain ⟨⟨d0, d1, d2, d3, d4⟩, _, _, dz⟩ := def_cells2 T0
        have T1 := heap_setCell_same wa D 4 _ _ (.slice none 0 0) T0
        have T1' : (wa.setCell ⟨D, 4, none⟩ (.slice none 0 0)).heap[D]? = some (.cells #[.bool d.pub, .string ⟨d.res.name.toArray⟩, .slice ap d.params.length cp, .int .i64 d.res.base, .slice none 0 0, .int .i64 d.body.op, .string ⟨d.body.name.toArray⟩, .string ⟨d.body.module.toArray⟩, .bool (decide (d.body.num < 0)), .slice am wn cm, .bool d.body.yes, .slice ae d.body.kids.length ce, .int .i64 d.body.at_, .int .i64 d.res.at_, .int .i64 d.res.bare] 54 (0, 0)) := T1
        have hb1 : Below D wo (wa.setCell ⟨D, 4, none⟩ (.slice none 0 0)) := hb0.setCell (Nat.le_refl _) _
        clear T1
        go_upto_region 6 with fail
        clear d0 d1 d2 d3 d4 dz T0 hb0
        have hDl1 : D < (wa.setCell ⟨D, 4, none⟩ (.slice none 0 0)).heap.size := by simpa using hDl
        generalize wa.setCell _ _ = wb at T1' hb1 hDl1 ⊢
        obtain ⟨⟨d0, d1, d2, d3, d4⟩, _, _, dz⟩ := def_cells2 T1'
        have T2 := heap_setCell_same wb D 2 _ _ (.slice none 0 0) T1'
        have T2' : (wb.setCell ⟨D, 2, none⟩ (.slice none 0 0)).heap[D]? = some (.cells #[.bool d.pub, .string ⟨d.res.name.toArray⟩, .slice none 0 0, .int .i64 d.res.base, .slice none 0 0, .int .i64 d.body.op, .string ⟨d.body.name.toArray⟩, .string ⟨d.body.module.toArray⟩, .bool (decide (d.body.num < 0)), .slice am wn cm, .bool d.body.yes, .slice ae d.body.kids.length ce, .int .i64 d.body.at_, .int .i64 d.res.at_, .int .i64 d.res.bare] 54 (0, 0)) := T2
        have hb2 : Below D wo (wb.setCell ⟨D, 2, none⟩ (.slice none 0 0)) := hb1.setCell (Nat.le_refl _) _
        have hDl2 : D < (wb.setCell ⟨D, 2, none⟩ (.slice none 0 0)).heap.size := by simpa using hDl1
        clear T2
        go_upto_region 8 with fail
        clear d0 d1 d2 d3 d4 dz T1' hb1 hDl hDl1
        generalize wb.setCell _ _ = w3 at T2' hb2 hDl2 ⊢
        go_wp2
        go_loopw [26] (fun q wr => ∃ (k : Nat) (ap2 : Option Addr) (cp2 : Nat), k ≤ d.params.length ∧ q = .int .i64 k ∧ Alk (fun b => b < w3.heap.size ∧ b ≠ D) w3 wr ∧ wr.heap[D]? = some (.cells #[.bool d.pub, .string ⟨d.res.name.toArray⟩, .slice ap2 k cp2, .int .i64 d.res.base, .slice none 0 0, .int .i64 d.body.op, .string ⟨d.body.name.toArray⟩, .string ⟨d.body.module.toArray⟩, .bool (decide (d.body.num < 0)), .slice am wn cm, .bool d.body.yes, .slice ae d.body.kids.length ce, .int .i64 d.body.at_, .int .i64 d.res.at_, .int .i64 d.res.bare] 54 (0, 0)) ∧ OwnQ (FK XA) (fun _ => False) w3.heap.size 56 wr (.slice ap2 k cp2) ((d.params.take k).map FF.erase) ∧ Below D wo wr) (fun q _ => d.params.length - (intOf q).toNat)
        case atStart => exact ⟨0, none, 0, Nat.zero_le _, rfl, Alk.refl _ _, T2', by rw [List.take_zero]; exact OwnQ.nil _ _ _ _ _, hb2⟩
        case round =>
          obtain ⟨k, ap2, cp2, hk, rfl, halx, hDx, hprow, hbx⟩ := hrel
          have hszx := halx.1
          by_cases hlt3 : k < d.params.length
          ·
            obtain ⟨b3, o3, rfl, hb3B, hb3w, hkid3⟩ := HF3.out (by omega)
            obtain ⟨cv3, hcr3, hc3⟩ := hkid3 k hlt3
            have hsn3 : (d.params.take (k + 1)).map FF.erase = (d.params.take k).map FF.erase ++ [d.params[k].erase] := by rw [List.take_succ_eq_append_getElem hlt3, List.map_append]; rfl
            have hkI : (k : Int) < (d.params.length : Int) := by omega
            generalize d.params[k] = f at hcr3 hc3 hsn3
            obtain ⟨ac3, cc3, rfl⟩ := RowK.slice (show RowK (EK XA) (fun b => b < B) w cv3 f.clause from hcr3)
            have hnk : ((d.params.take k).map FF.erase).length = k := by rw [List.length_map, List.length_take]; omega
            generalize (d.params.take k).map FF.erase = acc3 at hprow hsn3 hnk
            have HNK := Lib.hid hnk
            have HSN3 := Lib.hid hsn3
            have hbwx : Below w.heap.size w wr := hbl.trans (hbx.mono (by have := hbl.size; omega))
            have hcl : ∀ (c : Nat) (u : Value), w.cell? ⟨b3, c, none⟩ = some u → wr.cell? ⟨b3, c, none⟩ = some u := fun c u hu => (hbwx.cell (p := ⟨b3, c, none⟩) hb3w).trans hu
            have v0 := hcl _ _ (show w.cell? ⟨b3, o3 + k * 5, none⟩ = some (.string ⟨f.name.toArray⟩) from hc3 0 _ rfl)
            have v1 := hcl _ _ (show w.cell? ⟨b3, o3 + k * 5 + 1, none⟩ = some (.int .i64 f.base) from hc3 1 _ rfl)
            have v2 := hcl _ _ (show w.cell? ⟨b3, o3 + k * 5 + 2, none⟩ = some (.slice ac3 f.clause.length cc3) from hc3 2 _ rfl)
            have v3 := hcl _ _ (show w.cell? ⟨b3, o3 + k * 5 + 3, none⟩ = some (.int .i64 f.at_) from hc3 3 _ rfl)
            have v4 := hcl _ _ (show w.cell? ⟨b3, o3 + k * 5 + 4, none⟩ = some (.int .i64 f.bare) from hc3 4 _ rfl)
            have U0 := heap_alloc_new wr (.cells #[.string ⟨f.name.toArray⟩, .int .i64 f.base, .slice ac3 f.clause.length cc3, .int .i64 f.at_, .int .i64 f.bare] 56)
            have ha0 := below_new wr (.cells #[.string ⟨f.name.toArray⟩, .int .i64 f.base, .slice ac3 f.clause.length cc3, .int .i64 f.at_, .int .i64 f.bare] 56)
            clear hkid3 hc3 hcl hcr3 hsn3 hnk
            go_upto_region 11 with fail
            clear v0 v1 v2 v3 v4
            generalize hX : wr.heap.size = X at U0 ha0 ⊢
            generalize wr.alloc _ = wy at U0 ha0 ⊢
            obtain ⟨-, -, p2, -, -, pz⟩ := par_cells U0
            have U1 := heap_setCell_same wy X 2 _ _ (.slice none 0 0) U0
            have U1' : (wy.setCell ⟨X, 2, none⟩ (.slice none 0 0)).heap[X]? = some (.cells #[.string ⟨f.name.toArray⟩, .int .i64 f.base, .slice none 0 0, .int .i64 f.at_, .int .i64 f.bare] 56 (0, 0)) := U1
            have ha1 : Below X wr (wy.setCell ⟨X, 2, none⟩ (.slice none 0 0)) := ha0.setCell (Nat.le_refl _) _
            clear U1
            go_upto_region 12 with fail
            clear p2 pz U0 ha0
            generalize wy.setCell _ _ = wz at U1' ha1 ⊢
            have ha2 : Below wr.heap.size wr wz := by rw [hX]; exact ha1
            have hDxw := (Array.getElem?_eq_some_iff.1 hDx).1
            have hDz := (ha2.block D hDxw).trans hDx
            obtain ⟨q0, q1, q2, q3, q4, -⟩ := par_cells U1'
            obtain ⟨⟨-, -, d2, -, -⟩, _, _, dz⟩ := def_cells2 hDz
            obtain ⟨lrow, h1, hown, hes⟩ := hprow
            rw [HNK.out] at hown
            have hneD : some D ≠ (Value.slice ap2 k cp2).ownBlock := fun q => by have := (hown.lt _ q.symm).1; omega
            have hza := ha2.size
            clear hX U1' ha1
            go_wp2_with (at_builtin; refine wpList_append_lies _ rfl _ _ 52 rfl w3.heap.size 56 ip _ 5 64 Tryz.underlying52 hip1 hip2 hip3 hip4 rfl (by decide) _ k _ rfl ((own_below hown ha2).alloc _) ⟨wz.heap.size, 0, none⟩ 1 1 [.string ⟨f.name.toArray⟩, .int .i64 f.base, .slice none 0 0, .int .i64 f.at_, .int .i64 f.bare] rfl rfl ?u1 ?u2 ?u3 ?u4 ?u5 ?u6 (wz.heap.size + 1) (by simp) ?_)
            case u2 => simp [Value.oneCell']
            case u4 => unfold maxLen; omega
            case u5 => omega
            case u6 => omega
            intro gg cap5 w5 hown5 hgrow5 hat5 hlt5
            have hDe := (hgrow5.block D (by simp; omega) hneD).trans ((Lib.alloc_old wz _ D (by omega)).trans hDz)
            obtain ⟨⟨-, -, d2', -, -⟩, _, _, dz'⟩ := def_cells2 hDe
            obtain ⟨o1, o2, o3⟩ := OwnQ.round (K := FK XA) (Q := fun _ => False) (wr := wr) (kv := .slice ap2 k cp2) (kv5 := .slice (some ⟨gg, 0, none⟩) (k + 1) cap5) (acc := acc3) (a := f.erase) (x := .slice none 0 0) (l := lrow) halx hDl2 (fun q => q) h1 (by rw [HNK.out]; exact hown) hes (FK_nil f _ _) ha2 (by rw [HNK.out]; exact hown5) hgrow5 rfl hat5 2 (.slice (some ⟨gg, 0, none⟩) (k + 1) cap5)
            have hD6 : (w5.setCell ⟨D, 2, none⟩ (.slice (some ⟨gg, 0, none⟩) (k + 1) cap5)).heap[D]? = some (.cells #[.bool d.pub, .string ⟨d.res.name.toArray⟩, .slice (some ⟨gg, 0, none⟩) (k + 1) cap5, .int .i64 d.res.base, .slice none 0 0, .int .i64 d.body.op, .string ⟨d.body.name.toArray⟩, .string ⟨d.body.module.toArray⟩, .bool (decide (d.body.num < 0)), .slice am wn cm, .bool d.body.yes, .slice ae d.body.kids.length ce, .int .i64 d.body.at_, .int .i64 d.res.at_, .int .i64 d.res.bare] 54 (0, 0)) := heap_setCell_same w5 D 2 _ _ _ hDe
            have hb6 := o3 D wo (Nat.le_refl _) hbx
            clear hgrow5 hown5 hat5 hDe hDz hes hown halx hDx d2 dz q0 q1 q2 q3 q4 h1 ha2 hbwx hbx
            go_wp2
            clear d2' dz'
            generalize w5.setCell _ _ = w6 at o1 o2 hD6 hb6 ⊢
            go_roundw
            case rel =>
              refine ⟨k + 1, some ⟨gg, 0, none⟩, cap5, by omega, by go_num, o2, hD6, ?_, hb6⟩
              rw [HSN3.out]
              exact o1
            case measure => simp [intOf]; omega
          ·
            obtain rfl : k = d.params.length := by omega
            have hkI : decide ((d.params.length : Int) < (d.params.length : Int)) = false := decide_eq_false (by omega)
            rw [List.take_length] at hprow
            have hDlo : wl.heap.size ≤ D := by omega
            have hOD : O ≠ D := by omega
            have hbo : Below wo.heap.size wo wr := by rw [hD]; exact hbx
            have hOx := (hbo.block O (by omega)).trans hOr
            obtain ⟨o0, o1, oz⟩ := prog_cells2 hOx
            obtain ⟨⟨d0, d1, d2, d3, d4⟩, ⟨d5, d6, d7, d8, d9⟩, ⟨d10, d11, d12, d13, d14⟩, dz⟩ := def_cells2 hDx
            obtain ⟨lrow, h1, hown, hes⟩ := hrow
            rw [HNJ.out] at hown
            have hneO : some O ≠ (Value.slice ad' j cd').ownBlock := fun q => by have := (hown.lt _ q.symm).1; omega
            have hltq : ∀ b, some b = (Value.slice ad' j cd').ownBlock → wl.heap.size ≤ b ∧ b < D := fun b q => by rw [← hD]; exact hown.lt b q.symm
            have hbwx : Below w.heap.size w wr := hbl.trans (hbo.mono hbl.size)
            have hDn : DA.inn (fun b => (b < B ∨ wl.heap.size ≤ b) ∧ some b ≠ (Value.slice ad' j cd').ownBlock) wr d.erase ⟨.slice ap2 d.params.length cp2, .slice none 0 0, .slice am wn cm, .slice ae d.body.kids.length ce⟩ := by
              refine ⟨?_, RowK.nil _ _ _, ?_⟩
              · exact hprow.row (R := fun b => (b < B ∨ wl.heap.size ≤ b) ∧ some b ≠ (Value.slice ad' j cd').ownBlock) (fun b hb => ⟨.inr (by omega), fun q => by have := (hltq b q).2; omega⟩) (fun b hb => hb.elim)
              · exact (EAt.frame (Alk.ofB hbwx (fun b hb => by omega)) hbe).imp fun b hb hl => ⟨.inl hb, fun q => by have := (hltq b q).1; omega⟩
            have HDN := Lib.hid hDn
            have hzx := hbo.size
            have hblo := hbl
            clear hDn hltq hprow hDx hbx hbe hbl
            go_wp2_with (at_builtin; refine wpList_append_lies _ rfl _ _ 29 rfl wl.heap.size 54 id _ 15 208 Tryz.underlying29 hid1 hid2 hid3 hid4 rfl (by decide) _ j _ rfl ((own_below hown hbo).alloc _) ⟨wr.heap.size, 0, none⟩ 1 1 [.bool d.pub, .string ⟨d.res.name.toArray⟩, .slice ap2 d.params.length cp2, .int .i64 d.res.base, .slice none 0 0, .int .i64 d.body.op, .string ⟨d.body.name.toArray⟩, .string ⟨d.body.module.toArray⟩, .bool (decide (d.body.num < 0)), .slice am wn cm, .bool d.body.yes, .slice ae d.body.kids.length ce, .int .i64 d.body.at_, .int .i64 d.res.at_, .int .i64 d.res.bare] rfl rfl ?x1 ?x2 ?x3 ?x4 ?x5 ?x6 (wr.heap.size + 1) (by simp) ?_)
            case x2 => simp [Value.oneCell']
            case x4 => unfold maxLen; omega
            case x5 => omega
            case x6 => omega
            intro gg cap5 w5 hown5 hgrow5 hat5 hlt5
            have hOe := (hgrow5.block O (by simp; omega) hneO).trans ((Lib.alloc_old wr _ O (by omega)).trans hOx)
            obtain ⟨o0', o1', oz'⟩ := prog_cells2 hOe
            obtain ⟨e1, e2, e3⟩ := OwnQ.round (K := DA) (Q := fun b => b < B ∨ wl.heap.size ≤ b) (wr := wo) (kv := .slice ad' j cd') (kv5 := .slice (some ⟨gg, 0, none⟩) (j + 1) cap5) (acc := acc) (a := d.erase) (x := ⟨.slice ap2 d.params.length cp2, .slice none 0 0, .slice am wn cm, .slice ae d.body.kids.length ce⟩) (l := lrow) halk hOw (by omega) h1 (by rw [HNJ.out]; exact hown) hes HDN.out hbo (by rw [HNJ.out]; exact hown5) hgrow5 rfl hat5 1 (.slice (some ⟨gg, 0, none⟩) (j + 1) cap5)
            have hO6 : (w5.setCell ⟨O, 1, none⟩ (.slice (some ⟨gg, 0, none⟩) (j + 1) cap5)).heap[O]? = some (.cells #[.slice ai' p.imports.length ci', .slice (some ⟨gg, 0, none⟩) (j + 1) cap5] 31 (0, 0)) := heap_setCell_same w5 O 1 _ _ _ hOe
            have hb6 := e3 w.heap.size w (by omega) hblo
            clear hblo hgrow5 hown5 hat5 hOe hOx hes hown halk d0 d1 d2 d3 d4 d5 d6 d7 d8 d9 d10 d11 d12 d13 d14 dz o0 o1 oz h1 hbo hbwx
            go_wp2
            clear o0' o1' oz'
            generalize w5.setCell _ _ = w6 at e1 e2 hO6 hb6 ⊢
            go_roundw
            case rel =>
              refine ⟨j + 1, some ⟨gg, 0, none⟩, cap5, by omega, by go_num, e2, hO6, ?_, hb6⟩
              rw [HSN.out]
              exact e1
            case measure => simp [intOf]; omega
      ·
        obtain rfl : j = p.defs.length := by omega
        have hjI : decide ((p.defs.length : Int) < (p.defs.length : Int)) = false := decide_eq_false (by omega)
        rw [List.take_length] at hrow
        have hR1 := (halk.2 (w.heap.size + 1) ⟨by omega, by omega⟩ (by omega)).trans H1
        have hri := ((HIR.out.imp (Q := fun b => (w2.heap.size ≤ b ∧ b ≠ O) ∧ b < wl.heap.size ∧ b ≠ O) fun b hb hl => ⟨hb, hl, hb.2⟩).frame ⟨halk.1, fun b hb hl => halk.2 b hb.2 hl⟩)
        have hrd := hrow.row (R := fun b => b < B ∨ wl.heap.size ≤ b) (fun b hb => .inr hb) (fun b hb _ => hb)
        obtain ⟨d0, d1, dz⟩ := prog_cells2 hOr
        obtain ⟨e0, e1, ez⟩ := prog_cells2 hR1
        have hdl : p.erase.defs.length = p.defs.length := List.length_map _
        have HDL := Lib.hid hdl
        clear hrow H0 H1 halk hOr hR1 c0 c1 hdl
        go_wp2
        refine bodyPost_ret (v := .agg #[.slice ai' p.imports.length ci', .slice ad' p.defs.length cd']) (by simp [results, Tryz.results14, go_sem, e0, e1]) rfl ⟨ai', ci', ad', cd', by rw [HDL.out]; rfl, HNL.out, ⟨?_, ?_⟩, ?_⟩
        · exact (hri.frame ((Alk.set _ fun b hb => by show b ≠ w.heap.size + 1; omega).trans (Alk.set _ fun b hb => by show b ≠ w.heap.size + 1; omega))).imp fun b hb hl => hl
        · rw [HDL.out]
          exact (hrd.frame ((Alk.set _ fun b hb => by show b ≠ w.heap.size + 1; omega).trans (Alk.set _ fun b hb => by show b ≠ w.heap.size + 1; omega))).imp fun b hb hl => hl
        · exact (hbl.setCell (by simp) _).setCell (by simp) _
end Go.Proofs.YtemkhbmkaalgdaaGreatDoor
