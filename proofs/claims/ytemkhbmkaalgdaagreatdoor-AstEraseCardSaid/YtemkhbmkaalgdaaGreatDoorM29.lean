/- The walks of the code that the claim reaches, and the plain laws: DoneW, SizeW, DigitsW, AtsW, RdumpW. No condition of ours. -/
import Derived.Test.YtemkhbmkaalgdaaGreatDoorM17
import Derived.BigQuiet
import Derived.Lib.Hide
import Derived.Test.YtemkhbmkaalgdaaGreatDoorM08
import Derived.WalkKit
import Derived.Laws.IdiomStrings
import Derived.Test.YtemkhbmkaalgdaaGreatDoorM16
import Derived.Test.YtemkhbmkaalgdaaGreatDoorM24
import Derived.Maps.AppendAt
import Derived.RangeFuncBox
import Derived.Test.YtemkhbmkaalgdaaGreatDoorM11
namespace Go.Proofs.YtemkhbmkaalgdaaGreatDoor
open Go.RowKit Go
def Ki (w w' : World) : Prop := ∀ (k : Nat) (cs : Array Value) (fr : Nat × Nat), w.heap[k]? = some (.cells cs 3 fr) → w'.heap[k]? = some (.cells cs 3 fr)
theorem Ki.trans {a b c : World} (h : Ki a b) (k : Ki b c) : Ki a c := fun n cs fr q => k n cs fr (h n cs fr q)
theorem Ki.below {w w' : World} (h : Below w.heap.size w w') : Ki w w' := fun k _cs _fr q => (h.block k (Array.getElem?_eq_some_iff.1 q).1).trans q
theorem Ki.set {w : World} {b : Nat} {cs : Array Value} {T : TypeId} {fr : Nat × Nat} (hb : w.heap[b]? = some (.cells cs T fr)) (hT : T ≠ 3) (j : Nat) (u : Value) : Ki w (w.setCell ⟨b, j, none⟩ u) := fun k ds fr' q => by
  rw [heap_setCell_other _ _ _ _ (by
    show k ≠ b
    rintro rfl
    rw [hb] at q
    simp only [Option.some.injEq, Obj.cells.injEq] at q
    exact hT q.2.1)]
  exact q
theorem IntsAt.ki {w w' : World} {v : Value} {ks : List Int} (h : IntsAt w v ks) (hk : Ki w w') : IntsAt w' v ks := by
  obtain ⟨ao, cap, hv, hc, hf⟩ := h
  refine ⟨ao, cap, hv, hc, fun h0 => ?_⟩
  obtain ⟨b, off, cs, fr, ha, hb, hj⟩ := hf h0
  exact ⟨b, off, cs, fr, ha, hk b cs fr hb, hj⟩
theorem own_keep {w w' : World} {B e sz n : Nat} {v : Value} {xs : List Value} (h : w.ownsRow B e sz v n xs) (hs : ∀ q, v.ownBlock = some q → w'.heap[q]? = w.heap[q]?) : w'.ownsRow B e sz v n xs := by
  refine ⟨h.1, ?_⟩
  rcases h.2 with hn | ⟨g, cap, cur, hv, hg, hh, hr⟩
  · exact .inl hn
  · exact .inr ⟨g, cap, cur, hv, hg, (hs g (by rw [hv]; rfl)).trans hh, hr⟩
def TreeTy (w : World) (v : Value) (toks : List Tok) (nodes : List Nd) : Prop :=
  ∃ (tv nv : Value) (l : List (Nd × Value)) (C D : Nat), v = .agg #[tv, nv] ∧ w.ownsRow C 83 4 tv toks.length (toks.flatMap tokCells) ∧ l.map Prod.fst = nodes ∧ w.ownsRow D 85 3 nv nodes.length (l.flatMap ndCells) ∧ ∀ p ∈ l, IntsAt w p.2 p.1.kids
theorem TreeTy.set {w : World} {v : Value} {toks : List Tok} {nodes : List Nd} (h : TreeTy w v toks nodes) {b : Nat} {cs : Array Value} {T : TypeId} {fr : Nat × Nat} (hb : w.heap[b]? = some (.cells cs T fr)) (h1 : T ≠ 83) (h2 : T ≠ 85) (h3 : T ≠ 3) (j : Nat) (u : Value) : TreeTy (w.setCell ⟨b, j, none⟩ u) v toks nodes := by
  obtain ⟨tv, nv, l, C, D, e, p1, p2, p3, p4⟩ := h
  exact ⟨tv, nv, l, C, D, e, own_set (a := ⟨b, j, none⟩) p1 (own_ne p1 hb h1) u, p2, own_set (a := ⟨b, j, none⟩) p3 (own_ne p3 hb h2) u, fun p hp => (p4 p hp).ki (Ki.set hb h3 j u)⟩
theorem TreeTy.later {w w' : World} {v : Value} {toks : List Tok} {nodes : List Nd} (h : TreeTy w v toks nodes) (hb : Below w.heap.size w w') : TreeTy w' v toks nodes := by
  obtain ⟨tv, nv, l, C, D, e, p1, p2, p3, p4⟩ := h
  exact ⟨tv, nv, l, C, D, e, own_below p1 hb, p2, own_below p3 hb, fun p hp => (p4 p hp).ki (Ki.below hb)⟩
theorem TreeTy.at {w : World} {v : Value} {toks : List Tok} {nodes : List Nd} (h : TreeTy w v toks nodes) : TreeAt w.heap.size w v toks nodes := by
  obtain ⟨tv, nv, l, C, D, e, p1, p2, p3, p4⟩ := h
  have hll : l.length = nodes.length := by rw [← p2, List.length_map]
  refine ⟨tv, nv, l, e, Sl.ofOwns p1, p2, ?_, fun p hp => ?_⟩
  · rw [Rec, hll]
    exact Sl.ofOwns p3
  · obtain ⟨ai, ci, hvi, hci, hfi⟩ := p4 p hp
    refine ⟨ai, ci, hvi, hci, by simp, fun hp0 => ?_⟩
    obtain ⟨bi, oi, cs, fr, e1, e2, e3⟩ := hfi hp0
    refine ⟨bi, oi, e1, (Array.getElem?_eq_some_iff.1 e2).1, fun jj hjj => ?_⟩
    rw [Lib.cell_of_heap e2, e3 jj (by simpa using hjj)]
    simp
def DonePost (toks : List Tok) (nodes : List Nd) (w : World) (e : Ending) (w' : World) : Prop :=
  ∃ v, e = .returned v ∧ TreeTy w' v toks nodes ∧ Below w.heap.size w w'
def NRow (C : Nat) (w : World) (nv : Value) (nodes : List Nd) : Prop :=
  ∃ l : List (Nd × Value), l.map Prod.fst = nodes ∧ w.ownsRow C 85 3 nv nodes.length (l.flatMap ndCells) ∧ ∀ p ∈ l, IntsAt w p.2 p.1.kids
set_option maxHeartbeats 1000000 in
set_option maxRecDepth 100000 in
theorem done_any (R : List Nat) (B bb : Nat) (tv : Value) (toks : List Tok) (nodes : List Nd) (used : Nat) (w : World) (hb : BW R B bb tv used nodes w) (ht : Rec B w tv 4 tokCells toks) (h0 : 0 < toks.length) (hn : toks.length ≤ 1000000) (hm : nodes.length ≤ 1000000) (hkl : ∀ n ∈ nodes, n.kids.length ≤ 1000000) :
    Calls Tryz.prog 56 #[.pointer (some ⟨bb, 0, none⟩)] w (DonePost toks nodes w) := by
  have HC := Lib.hid (fun W (h : Rec B W tv 4 tokCells toks) => clone_toks B tv toks W h h0 (by omega))
  obtain ⟨h1, nv, l, h2, h3, h4, h5⟩ := hb
  have hlt := (Array.getElem?_eq_some_iff.1 h2).1
  obtain ⟨ao, cap, rfl, _⟩ : ∃ ao cap, nv = .slice ao nodes.length cap ∧ True := by
    rcases h4.2 with ⟨hv, hn0⟩ | ⟨g, cap, cur, hv, _⟩
    · exact ⟨none, 0, by rw [hv, hn0], trivial⟩
    · exact ⟨_, cap, hv, trivial⟩
  have HT := Lib.hid ht
  obtain ⟨at_, ct, rfl, _, _⟩ := ht.form (fun _ => rfl)
  have c0 : w.cell? ⟨bb, 0, none⟩ = some (.slice at_ toks.length ct) := by rw [Lib.cell_of_heap h2]; rfl
  have hal := below_new w (.cells #[.slice none 0 0, .slice none 0 0] 25)
  have d0 := cell_later hal c0
  have hBw : B ≤ w.heap.size := by omega
  have H4 := Lib.hid h4
  have H5 := Lib.hid h5
  clear h4 h5 ht c0
  go_enter Tryz.func56, Tryz.ntmps56
  go_wp2_with (go_at_call 80; refine (HC.out _ ?c1).mono ?_)
  case c1 => exact HT.out.below (hal.mono hBw)
  rintro e w1 ⟨v', rfl, hown, hb1⟩
  obtain ⟨g, c5, rfl, hg1, hg2⟩ := hown.form h0
  have G0 := (hb1.block w.heap.size (by simp)).trans (heap_alloc_new w (.cells #[.slice none 0 0, .slice none 0 0] 25))
  have Gb := (hb1.block bb (by simp; omega)).trans ((Lib.alloc_old w _ bb hlt).trans h2)
  go_upto_region 2 with (fail)
  have hz1 := hb1.size
  rw [World.size_alloc] at hz1
  have hbw1 : Below w.heap.size w w1 := hal.trans (hb1.mono (by simp))
  have T1 := heap_alloc_new w1 (.cells #[.slice (some ⟨g, 0, none⟩) toks.length c5, .slice none 0 0] 25)
  have hb2 := below_new w1 (.cells #[.slice (some ⟨g, 0, none⟩) toks.length c5, .slice none 0 0] 25)
  have Gb2 := (Lib.alloc_old w1 (.cells #[.slice (some ⟨g, 0, none⟩) toks.length c5, .slice none 0 0] 25) bb (Array.getElem?_eq_some_iff.1 Gb).1).trans Gb
  generalize w1.alloc _ = w2 at T1 hb2 Gb2 ⊢
  have b1 : w2.cell? ⟨bb, 1, none⟩ = some (.slice ao nodes.length cap) := by rw [Lib.cell_of_heap Gb2]; rfl
  obtain ⟨j0, hj, hy0, hy1, hy2⟩ := info_parts Tryz.infoNode
  have hll : l.length = nodes.length := by rw [← h3, List.length_map]
  have hrec : Rec w.heap.size w (.slice ao nodes.length cap) 3 ndCells l := by
    have := Sl.ofOwns H4.out
    rw [Rec, hll]
    exact this
  obtain ⟨ao', cap', hv, _, hnf⟩ := hrec.formN (fun p => ndCells_len p) hll
  simp only [Value.slice.injEq] at hv
  obtain ⟨rfl, -, rfl⟩ := hv
  have HNF := Lib.hid hnf
  have HLL := Lib.hid hll
  have H3 := Lib.hid h3
  clear hnf hrec hll h3
  go_wp2
  clear b1 d0
  go_loopw [19] (fun q wr => ∃ (j : Nat) (nv2 : Value), j ≤ nodes.length ∧ q = .int .i64 j ∧ Alk (fun b => b < w1.heap.size) w2 wr ∧ wr.heap[w1.heap.size]? = some (.cells #[.slice (some ⟨g, 0, none⟩) toks.length c5, nv2] 25 (0, 0)) ∧ NRow (w1.heap.size + 1) wr nv2 (nodes.take j) ∧ Ki w2 wr ∧ Below w.heap.size w wr) (fun q _ => nodes.length - (intOf q).toNat)
  case atStart => exact ⟨0, .slice none 0 0, Nat.zero_le _, rfl, Alk.refl _ _, T1, ⟨[], rfl, World.ownsRow_nil _ _ _ _, fun p hp => by cases hp⟩, fun _ _ _ q => q, hbw1.trans (hb2.mono hbw1.size)⟩
  case round =>
    obtain ⟨j, nv2, hjn, rfl, halk, hT, hrow, hki, hbl⟩ := hrel
    have hzr := halk.1
    have hz2 := hb2.size
    by_cases hlt : j < nodes.length
    · have hjl : j < l.length := by have := HLL.out; omega
      obtain ⟨b, off, rfl, hbB, hcell⟩ := HNF.out (by omega)
      have hW2 : Below w.heap.size w w2 := hbw1.trans (hb2.mono hbw1.size)
      have hcl := fun (jj : Nat) (u : Value) (hu : (ndCells l[j])[jj]? = some u) => (World.cell?_of_block (a := ⟨b, off + j * 3 + jj, none⟩) ((halk.2 b (by have := hbw1.size; show b < w1.heap.size; omega) (by have := hbw1.size; omega)).trans (hW2.block b hbB))).trans (hcell j jj u hjl hu)
      have hx0 := hcl 0 _ rfl
      have hx1 := hcl 1 _ rfl
      have hx2 := hcl 2 _ rfl
      have hiw : IntsAt wr l[j].2 l[j].1.kids := ((H5.out l[j] (List.getElem_mem hjl)).1.ki (Ki.below hW2)).ki hki
      have hnj : nodes[j] = l[j].1 := by have := H3.out; subst this; simp
      have hkj := hkl nodes[j] (List.getElem_mem hlt)
      have hsn : nodes.take (j + 1) = nodes.take j ++ [l[j].1] := by rw [List.take_succ_eq_append_getElem hlt, hnj]
      rw [hnj] at hkj
      generalize l[j] = pr at hx0 hx1 hx2 hiw hkj hsn
      obtain ⟨⟨kind, tok, ks⟩, kv⟩ := pr
      simp only [Nat.add_zero] at hx0 hx1 hx2 hiw hkj hsn
      have HS := Lib.hid hsn
      have HIW := Lib.hid hiw
      obtain ⟨ak, ck, rfl⟩ := hiw.slice
      have hjI : (j : Int) < (nodes.length : Int) := by omega
      clear hcell hcl hnj hsn hiw
      go_wp2_with (go_at_call 81; refine (clone_ints _ ks _ (HIW.out.ki (Ki.below (below_new wr _))) (by omega)).mono ?_)
      rintro e w4 ⟨v5, rfl, hkR, hb4⟩
      have hk5 := (hkR [] (fun r hr => by cases hr)).1
      obtain ⟨a5, c6, rfl⟩ := hk5.slice
      have N4 := (hb4.block wr.heap.size (by simp)).trans (heap_alloc_new wr (.cells #[.int .i64 kind, .int .i64 tok, .slice ak ks.length ck] 85))
      have n2 : w4.cell? ⟨wr.heap.size, 2, none⟩ = some (.slice ak ks.length ck) := by rw [Lib.cell_of_heap N4]; rfl
      have nz : ∀ jj, w4.frozen? ⟨wr.heap.size, jj, none⟩ = false := by intro jj; simp [World.frozen?, N4]
      clear hkR hx0 hx1 hx2
      go_upto_region 6 with (fail)
      obtain ⟨l2, hl2, hown2, hk2⟩ := hrow
      have hlj : (nodes.take j).length = j := by rw [List.length_take]; omega
      rw [hlj] at hown2
      obtain ⟨a2, c2, rfl, _⟩ : ∃ a2 c2, nv2 = .slice a2 j c2 ∧ True := by
        rcases hown2.2 with ⟨hv, hn0⟩ | ⟨g, cap, cur, hv, _⟩
        · exact ⟨none, 0, by rw [hv, hn0], trivial⟩
        · exact ⟨_, cap, hv, trivial⟩
      have hne2 : some wr.heap.size ≠ (Value.slice a2 j c2).ownBlock := fun q => by have := (hown2.lt _ q.symm).2; omega
      have hlt1 : w1.heap.size < wr.heap.size := (Array.getElem?_eq_some_iff.1 hT).1
      have hb4' : Below wr.heap.size wr w4 := (below_new wr _).trans (hb4.mono (by simp))
      have N5 := heap_setCell_same w4 wr.heap.size 2 _ _ (.slice a5 ks.length c6) N4
      have T5 : (w4.setCell ⟨wr.heap.size, 2, none⟩ (.slice a5 ks.length c6)).heap[w1.heap.size]? = _ := (heap_setCell_other _ _ _ _ (by show w1.heap.size ≠ wr.heap.size; omega)).trans ((hb4'.block _ hlt1).trans hT)
      have hown5 := own_set (a := ⟨wr.heap.size, 2, none⟩) (own_below hown2 hb4') hne2 (.slice a5 ks.length c6)
      have hks := Ki.set N4 (by decide) 2 (.slice a5 ks.length c6)
      have hki5 := (hki.trans (Ki.below hb4')).trans hks
      have hkw5 := (Ki.below hb4').trans hks
      have hk5' := hk5.ki hks
      have halk5 : Alk (fun b => b < w1.heap.size) w2 (w4.setCell ⟨wr.heap.size, 2, none⟩ (.slice a5 ks.length c6)) := (halk.trans (Alk.of hb4')).trans (Alk.set _ fun b hb => by show b ≠ wr.heap.size; omega)
      have hb5 := (hbl.trans (hb4'.mono hbl.size)).setCell (p := ⟨wr.heap.size, 2, none⟩) hbl.size (.slice a5 ks.length c6)
      have hs5 : w4.heap.size ≤ (w4.setCell ⟨wr.heap.size, 2, none⟩ (.slice a5 ks.length c6)).heap.size := by simp
      have hs4 := hb4'.size
      clear hown2 hne2 N4 n2 nz hb4 hb4' hk5 hks
      generalize w4.setCell _ _ = w5 at N5 T5 hown5 hki5 hkw5 hk5' halk5 hs5 hb5 ⊢
      have t1 : w5.cell? ⟨w1.heap.size, 1, none⟩ = some (.slice a2 j c2) := by rw [Lib.cell_of_heap T5]; rfl
      have m0 : w5.cell? ⟨wr.heap.size, 0, none⟩ = some (.int .i64 kind) := by rw [Lib.cell_of_heap N5]; rfl
      have m1 : w5.cell? ⟨wr.heap.size, 1, none⟩ = some (.int .i64 tok) := by rw [Lib.cell_of_heap N5]; rfl
      have m2 : w5.cell? ⟨wr.heap.size, 2, none⟩ = some (.slice a5 ks.length c6) := by rw [Lib.cell_of_heap N5]; rfl
      go_wp2_with (at_builtin; refine wpList_append_own _ rfl _ _ 23 rfl (w1.heap.size + 1) 85 j0 (.agg #[.int .i64 0, .int .i64 0, .slice none 0 0]) 3 40 Tryz.underlying23 hj hy0 hy1 hy2 rfl (by decide) _ _ _ rfl (hown5.alloc _) ⟨w5.heap.size, 0, none⟩ 1 1 [.int .i64 kind, .int .i64 tok, .slice a5 ks.length c6] rfl rfl ?e1 ?e2 ?e3 ?e4 ?e5 ?_)
      case e1 =>
        intro j' u hj'
        exact World.news_of_block (cs := #[.int .i64 kind, .int .i64 tok, .slice a5 ks.length c6]) (t := 85) (fr := (0, 0)) (heap_alloc_new w5 _) j' u (by simpa using hj')
      case e2 => simp [Value.oneCell']
      case e3 => unfold maxLen; omega
      case e4 => omega
      case e5 => simp; omega
      intro v' w6 hown6 hgrow6 _
      obtain ⟨gv, cv, rfl, _, _⟩ := hown6.form (by omega)
      have hlt5 := (Array.getElem?_eq_some_iff.1 T5).1
      have T6 := own_block (hown5.alloc _) hgrow6 ((Lib.alloc_old w5 (.cells #[.int .i64 kind, .int .i64 tok, .slice a5 ks.length c6] 85) w1.heap.size hlt5).trans T5) (by decide)
      have k6 : Ki w5 w6 := fun k cs fr q => own_block (hown5.alloc _) hgrow6 ((Lib.alloc_old w5 (.cells #[.int .i64 kind, .int .i64 tok, .slice a5 ks.length c6] 85) k (Array.getElem?_eq_some_iff.1 q).1).trans q) (by decide)
      have a6 : Alk (fun b => b < w1.heap.size) w2 w6 := (halk5.trans (Alk.of (below_new w5 _))).trans (Alk.grown hgrow6 fun b hb q => by have := (hown5.lt b q.symm).1; omega)
      have s1 : w6.cell? ⟨w1.heap.size, 1, none⟩ = some (.slice a2 j c2) := by rw [Lib.cell_of_heap T6]; rfl
      have sz : ∀ jj, w6.frozen? ⟨w1.heap.size, jj, none⟩ = false := by intro jj; simp [World.frozen?, T6]
      have hs7 : Ki w6 (w6.setCell ⟨w1.heap.size, 1, none⟩ (.slice (some ⟨gv, 0, none⟩) (j + 1) cv)) := Ki.set T6 (by decide) 1 _
      have T7 := heap_setCell_same w6 w1.heap.size 1 _ _ (.slice (some ⟨gv, 0, none⟩) (j + 1) cv) T6
      have a7 := a6.trans (Alk.set (a := ⟨w1.heap.size, 1, none⟩) (.slice (some ⟨gv, 0, none⟩) (j + 1) cv) fun b hb => by show b ≠ w1.heap.size; omega)
      have o7 := own_set (a := ⟨w1.heap.size, 1, none⟩) hown6 (fun q => by have := (hown6.lt _ q.symm).1; simp at this; omega) (.slice (some ⟨gv, 0, none⟩) (j + 1) cv)
      have hlj2 : (nodes.take (j + 1)).length = j + 1 := by rw [List.length_take]; omega
      have R7 : NRow (w1.heap.size + 1) (w6.setCell ⟨w1.heap.size, 1, none⟩ (.slice (some ⟨gv, 0, none⟩) (j + 1) cv)) (.slice (some ⟨gv, 0, none⟩) (j + 1) cv) (nodes.take (j + 1)) := by
        refine ⟨l2 ++ [(⟨kind, tok, ks⟩, .slice a5 ks.length c6)], by rw [List.map_append, hl2, HS.out]; rfl, ?_, fun p hp => ?_⟩
        · rw [hlj2, List.flatMap_append]
          exact o7
        · rcases List.mem_append.1 hp with hp | hp
          · exact (((hk2 p hp).ki hkw5).ki k6).ki hs7
          · rw [List.mem_singleton] at hp
            subst hp
            exact (hk5'.ki k6).ki hs7
      have hki7 := ((hki5.trans k6).trans hs7)
      have hw1w := hbw1.size
      have hb7 := ((hb5.alloc hb5.size (.cells #[.int .i64 kind, .int .i64 tok, .slice a5 ks.length c6] 85)).grown hgrow6 (by have := hb5.size; simp; omega) (fun q hq => by have := (hown5.lt q hq).1; omega)).setCell (p := ⟨w1.heap.size, 1, none⟩) hw1w (.slice (some ⟨gv, 0, none⟩) (j + 1) cv)
      clear hgrow6 hown6 hown5 t1 m0 m1 m2 o7 hk2 hl2
      go_wp2
      go_roundw
      case rel => exact ⟨j + 1, _, by omega, by go_num, a7, T7, R7, hki7, hb7⟩
      case measure => simp [intOf]; omega
    · obtain rfl : j = nodes.length := by omega
      rw [List.take_length] at hrow
      obtain ⟨l2, hl2, hown2, hk2⟩ := hrow
      obtain ⟨a2, c2, rfl, _⟩ : ∃ a2 c2, nv2 = .slice a2 nodes.length c2 ∧ True := by
        rcases hown2.2 with ⟨hv, hn0⟩ | ⟨g, cap, cur, hv, _⟩
        · exact ⟨none, 0, by rw [hv, hn0], trivial⟩
        · exact ⟨_, cap, hv, trivial⟩
      have hl1 := (Array.getElem?_eq_some_iff.1 G0).1
      have Z := (halk.2 w.heap.size hl1 (by omega)).trans ((hb2.block w.heap.size hl1).trans G0)
      have s0 : wr.cell? ⟨w1.heap.size, 0, none⟩ = some (.slice (some ⟨g, 0, none⟩) toks.length c5) := by rw [Lib.cell_of_heap hT]; rfl
      have s1 : wr.cell? ⟨w1.heap.size, 1, none⟩ = some (.slice a2 nodes.length c2) := by rw [Lib.cell_of_heap hT]; rfl
      have q0 : wr.cell? ⟨w.heap.size, 0, none⟩ = some (.slice none 0 0) := by rw [Lib.cell_of_heap Z]; rfl
      have q1 : wr.cell? ⟨w.heap.size, 1, none⟩ = some (.slice none 0 0) := by rw [Lib.cell_of_heap Z]; rfl
      have qz : ∀ jj, wr.frozen? ⟨w.heap.size, jj, none⟩ = false := by intro jj; simp [World.frozen?, Z]
      have hjI : decide ((nodes.length : Int) < (nodes.length : Int)) = false := decide_eq_false (by omega)
      have hll2 : l2.length = nodes.length := by rw [← hl2, List.length_map]
      have k1 : Ki wr (wr.setCell ⟨w.heap.size, 0, none⟩ (.slice (some ⟨g, 0, none⟩) toks.length c5)) := Ki.set Z (by decide) 0 _
      have Z1 := heap_setCell_same wr w.heap.size 0 _ _ (.slice (some ⟨g, 0, none⟩) toks.length c5) Z
      have k2 := Ki.set Z1 (by decide) 1 (.slice a2 nodes.length c2)
      have hgl := hown.lt g rfl
      simp only [World.size_alloc] at hgl
      have hP3 : ((wr.setCell ⟨w.heap.size, 0, none⟩ (.slice (some ⟨g, 0, none⟩) toks.length c5)).setCell ⟨w.heap.size, 1, none⟩ (.slice a2 nodes.length c2)).ownsRow _ 83 4 (.slice (some ⟨g, 0, none⟩) toks.length c5) toks.length (toks.flatMap tokCells) := own_keep hown fun q hq => by
        obtain rfl : g = q := by simpa [Value.ownBlock] using hq
        rw [heap_setCell_other _ _ _ _ (by show g ≠ w.heap.size; omega), heap_setCell_other _ _ _ _ (by show g ≠ w.heap.size; omega)]
        exact (halk.2 g hgl.2 (by omega)).trans (hb2.block g hgl.2)
      have hn1 := own_set (a := ⟨w.heap.size, 0, none⟩) hown2 (fun q => by have := (hown2.lt _ q.symm).1; simp at this; omega) (.slice (some ⟨g, 0, none⟩) toks.length c5)
      have hN3 := own_set (a := ⟨w.heap.size, 1, none⟩) hn1 (fun q => by have := (hn1.lt _ q.symm).1; simp at this; omega) (.slice a2 nodes.length c2)
      have hb9 := (hbl.setCell (p := ⟨w.heap.size, 0, none⟩) (Nat.le_refl _) (.slice (some ⟨g, 0, none⟩) toks.length c5)).setCell (p := ⟨w.heap.size, 1, none⟩) (Nat.le_refl _) (.slice a2 nodes.length c2)
      go_wp2
      refine bodyPost_ret (v := .agg #[.slice (some ⟨g, 0, none⟩) toks.length c5, .slice a2 nodes.length c2]) (by simp [results, Tryz.results56, go_sem, q0, q1]) rfl ⟨_, rfl, ⟨_, _, l2, _, _, rfl, hP3, hl2, hN3, fun p hp => ((hk2 p hp).ki k1).ki k2⟩, hb9⟩
end Go.Proofs.YtemkhbmkaalgdaaGreatDoor

namespace Go.Proofs.YtemkhbmkaalgdaaGreatDoor
open Go.RowKit Go
mutual
def PE.size : PE → Nat
  | .mk _ _ _ _ _ _ kids _ => 1 + sizeE kids
def sizeE : List PE → Nat
  | [] => 0
  | e :: l => e.size + sizeE l
end
theorem sizeE_append : ∀ (a b : List PE), sizeE (a ++ b) = sizeE a + sizeE b
  | [], b => by simp [sizeE]
  | e :: a, b => by rw [List.cons_append, sizeE, sizeE, sizeE_append a b, Nat.add_assoc]
mutual
theorem PE.ats_len : ∀ e : PE, e.ats.length = e.size
  | .mk _ _ _ _ _ _ kids _ => by rw [PE.ats, PE.size, List.length_cons, atsE_len kids, Nat.add_comm]
theorem atsE_len : ∀ l : List PE, (atsE l).length = sizeE l
  | [] => rfl
  | e :: l => by rw [atsE, sizeE, List.length_append, PE.ats_len e, atsE_len l]
end
theorem sizeE_mem : ∀ (l : List PE) (e : PE), e ∈ l → e.size ≤ sizeE l
  | x :: l, e, h => by
    rw [sizeE]
    rcases List.mem_cons.1 h with rfl | h
    · omega
    · have := sizeE_mem l e h
      omega
theorem PE.size_def (e : PE) : e.size = 1 + sizeE e.kids := by cases e; rfl
theorem sizeE_few : ∀ l : List PE, l.length ≤ sizeE l
  | [] => Nat.zero_le _
  | e :: l => by
    have := sizeE_few l
    rw [sizeE, e.size_def, List.length_cons]
    omega
theorem kids_sizeOf (e : PE) : ∀ x ∈ e.kids, SizeOf.sizeOf x < SizeOf.sizeOf e := by
  intro x hx
  cases e with
  | mk op name module num txt yes kids at_ =>
    have := List.sizeOf_lt_of_mem hx
    simp only [PE.mk.sizeOf_spec, PE.kids] at this ⊢
    omega
theorem EAt.slX {P : Nat → Prop} {w : World} {m k : Value} {x : PE} (h : EAt XA P w m k x) : ∃ am wn cm ae ce, m = .slice am wn cm ∧ k = .slice ae x.kids.length ce := by
  obtain ⟨hnum, ae, ce, rfl, _, _⟩ := h.form
  obtain ⟨ws, hws, _⟩ := (hnum : NumAt _ _ _ _)
  obtain ⟨am, cm, rfl⟩ := hws.form
  exact ⟨am, _, cm, ae, ce, rfl, rfl⟩
set_option maxHeartbeats 1000000 in
set_option maxRecDepth 100000 in
theorem size_any : ∀ (n : Nat) (e : PE), SizeOf.sizeOf e < n → ∀ (B : Nat) (am : Option Addr) (wn cm : Nat) (ae : Option Addr) (ce : Nat) (w : World), EAt XA (fun b => b < B) w (.slice am wn cm) (.slice ae e.kids.length ce) e → B ≤ w.heap.size → e.size ≤ 1099511627776 →
    Calls Tryz.prog 27 #[.agg #[.int .i64 e.op, .string ⟨e.name.toArray⟩, .string ⟨e.module.toArray⟩, .bool (decide (e.num < 0)), .slice am wn cm, .bool e.yes, .slice ae e.kids.length ce, .int .i64 e.at_]] w fun r w' => r = .returned (.int .i64 e.size) ∧ Below w.heap.size w w'
  | 0, e, hs, _, _, _, _, _, _, _, _, _, _ => absurd hs (by omega)
  | n + 1, e, hs, B, am, wn, cm, ae, ce, w, h, hB, hz => by
    have hsub := kids_sizeOf e
    have hdef := e.size_def
    obtain ⟨hnum, ae', ce', hv, hcap, hf⟩ := h.form
    simp only [Value.slice.injEq] at hv
    obtain ⟨rfl, -, rfl⟩ := hv
    have hfew := sizeE_few e.kids
    have IH := Lib.hid (fun (x : PE) (hx : x ∈ e.kids) => size_any n x (by have := hsub x hx; omega))
    have HF := Lib.hid hf
    have HD := Lib.hid hdef
    have hkl : e.kids.length ≤ 1099511627776 := by omega
    have hzk : sizeE e.kids + 1 ≤ 1099511627776 := by omega
    clear h hnum hf hsub hs hdef hz
    go_enter Tryz.func27, Tryz.ntmps27
    go_wp2
    generalize hkk : e.kids = ks at *
    go_loopw [3, 9] (fun nv q wr => ∃ k : Nat, k ≤ ks.length ∧ q = .int .i64 k ∧ nv = .int .i64 ((1 + sizeE (ks.take k) : Nat) : Int) ∧ Below w.heap.size w wr) (fun _ q _ => ks.length - (intOf q).toNat)
    case atStart => exact ⟨0, Nat.zero_le _, rfl, rfl, (Below.refl _ _).alloc (Nat.le_refl _) _⟩
    case round =>
      obtain ⟨k, hk, rfl, rfl, hbl⟩ := hrel
      have hw := hbl.size
      by_cases hlt : k < ks.length
      · obtain ⟨b, off, rfl, hbB, hbw, hkid⟩ := HF.out (by omega)
        obtain ⟨m, kv, hE, hc⟩ := hkid k hlt
        have hmem : ks[k] ∈ ks := List.getElem_mem hlt
        have hsn : ks.take (k + 1) = ks.take k ++ [ks[k]] := List.take_succ_eq_append_getElem hlt
        have hle := sizeE_mem ks _ hmem
        have hsz : sizeE (ks.take (k + 1)) = sizeE (ks.take k) + ks[k].size := by rw [hsn, sizeE_append]; simp [sizeE]
        have htl : sizeE (ks.take (k + 1)) ≤ sizeE ks := by
          have := sizeE_append (ks.take (k + 1)) (ks.drop (k + 1))
          rw [List.take_append_drop] at this
          omega
        obtain ⟨am1, wn1, cm1, ae1, ce1, rfl, rfl⟩ := hE.slX
        have IHx := IH.out _ hmem B am1 wn1 cm1 ae1 ce1
        generalize ks[k] = x at hE hc hsz hle IHx
        have y0 := (hbl.cell (p := ⟨b, off + k * 8, none⟩) hbw).trans (hc 0 _ rfl)
        have y1 := (hbl.cell (p := ⟨b, off + k * 8 + 1, none⟩) hbw).trans (hc 1 _ rfl)
        have y2 := (hbl.cell (p := ⟨b, off + k * 8 + 2, none⟩) hbw).trans (hc 2 _ rfl)
        have y3 := (hbl.cell (p := ⟨b, off + k * 8 + 3, none⟩) hbw).trans (hc 3 _ rfl)
        have y4 := (hbl.cell (p := ⟨b, off + k * 8 + 4, none⟩) hbw).trans (hc 4 _ rfl)
        have y5 := (hbl.cell (p := ⟨b, off + k * 8 + 5, none⟩) hbw).trans (hc 5 _ rfl)
        have y6 := (hbl.cell (p := ⟨b, off + k * 8 + 6, none⟩) hbw).trans (hc 6 _ rfl)
        have y7 := (hbl.cell (p := ⟨b, off + k * 8 + 7, none⟩) hbw).trans (hc 7 _ rfl)
        simp only [strV] at y1 y2
        have hA : ∀ o, EAt XA (fun b => b < B) (wr.alloc o) (.slice am1 wn1 cm1) (.slice ae1 x.kids.length ce1) x := fun o => hE.frame (Alk.ofB (hbl.alloc hw o) (fun b hb => by omega))
        have hbA : ∀ o, Below w.heap.size w (wr.alloc o) := fun o => hbl.alloc hw o
        have HI := Lib.hid (fun o => IHx (wr.alloc o) (hA o) (by simp; omega) (by omega))
        have HS := Lib.hid hsz
        have hI2 : (1 : Int) + (sizeE (ks.take k) : Int) + (x.size : Int) ≤ 1099511627776 := by omega
        clear hkid hc hE IHx hsn hsz hA htl
        have hkI : (k : Int) < (ks.length : Int) := by omega
        go_wp2_with (go_at_call 27; refine (HI.out _).mono ?_; rintro r w2 ⟨rfl, hb2⟩)
        exact ⟨⟨k + 1, by omega, by go_num, by rw [HS.out]; go_num, (hbA _).trans (hb2.mono (hbA _).size)⟩, by simp [intOf]; omega⟩
      · obtain rfl : k = ks.length := by omega
        have hkI : decide ((ks.length : Int) < (ks.length : Int)) = false := decide_eq_false (by omega)
        go_wp2
        go_ret
        refine ⟨?_, hbl⟩
        rw [HD.out, List.take_length]; try rfl
end Go.Proofs.YtemkhbmkaalgdaaGreatDoor

namespace Go.Proofs.YtemkhbmkaalgdaaGreatDoor
open Go.RowKit Go
def StrPost (l : List UInt8) (w : World) (r : Ending) (w' : World) : Prop := r = .returned (.string ⟨l.toArray⟩) ∧ Below w.heap.size w w'
end Go.Proofs.YtemkhbmkaalgdaaGreatDoor

namespace Go.Proofs.YtemkhbmkaalgdaaGreatDoor
open Go.RowKit Go
theorem row_form {W : World} {base n : Nat} {e : TypeId} {size : Nat} {v : Value} {xs : List Value} (h : W.ownsRow base e size v n xs) (h0 : 0 < n) : ∃ g cap, v = .slice (some ⟨g, 0, none⟩) n cap := by
  rcases h.2 with ⟨_, h1⟩ | ⟨g, cap, _, rfl, _⟩
  · omega
  · exact ⟨g, cap, rfl⟩
theorem take_succ_at {α : Type} {l : List α} {k : Nat} (h : k < l.length) : l.take (k + 1) = l.take k ++ [l[k]] := List.take_succ_eq_append_getElem h
end Go.Proofs.YtemkhbmkaalgdaaGreatDoor

namespace Go.Proofs.YtemkhbmkaalgdaaGreatDoor
open Go.RowKit Go
theorem PE.dump_def (e : PE) : e.dump = headF e.op e.name e.module (intF e.num) e.yes ++ dumpE e.kids ++ [93] := by cases e; rfl
theorem dumpE_append : ∀ (a b : List PE), dumpE (a ++ b) = dumpE a ++ dumpE b
  | [], b => by simp [dumpE]
  | e :: a, b => by simp only [List.cons_append, dumpE, dumpE_append a b, List.append_assoc]
mutual
def PE.opsOk : PE → Prop
  | .mk op _ _ _ _ _ kids _ => op < 100 ∧ opsOkE kids
def opsOkE : List PE → Prop
  | [] => True
  | e :: l => e.opsOk ∧ opsOkE l
end
theorem empty_no {s : ByteArray} (h : s.data.toList ≠ []) : s.toList.isEmpty = false := by
  rw [isEmpty_size]
  refine decide_eq_false fun q => h ?_
  rw [← size_list] at q
  exact List.length_eq_zero_iff.1 q
theorem empty_yes {s : ByteArray} (h : s.data.toList = []) : s.toList.isEmpty = true := by
  rw [isEmpty_size]
  refine decide_eq_true ?_
  rw [← size_list, h]
  rfl
def nameF (nm md : List UInt8) : List UInt8 := if md ≠ [] then [32] ++ md ++ [46] ++ nm else if nm ≠ [] then [32] ++ nm else []
def numTF (op : Nat) (tx : List UInt8) : List UInt8 := if op = 1 then [32] ++ tx else []
def yesF (op : Nat) (ys : Bool) : List UInt8 := if op = 2 then (if ys = true then [32, 116, 114, 117, 101] else [32, 102, 97, 108, 115, 101]) else []
theorem nameF_md {nm md : List UInt8} (h : md ≠ []) : nameF nm md = [32] ++ md ++ [46] ++ nm := by rw [nameF, if_pos h]
theorem nameF_nm {nm md : List UInt8} (h : md = []) (hn : nm ≠ []) : nameF nm md = [32] ++ nm := by rw [nameF, if_neg (by simp [h]), if_pos hn]
theorem nameF_no {nm md : List UInt8} (h : md = []) (hn : nm = []) : nameF nm md = [] := by rw [nameF, if_neg (by simp [h]), if_neg (by simp [hn])]
theorem head_parts (op : Nat) (nm md tx : List UInt8) (ys : Bool) : headF op nm md tx ys = [91] ++ decF op ++ nameF nm md ++ numTF op tx ++ yesF op ys := rfl
end Go.Proofs.YtemkhbmkaalgdaaGreatDoor
