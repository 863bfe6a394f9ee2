/- The walks of the code that the claim reaches, and the plain laws: MTreeW, FExprW1. No condition of ours. -/
import Derived.Test.YtdjkibbnkklajaaGreatDoorM22
import Derived.Deep.CutBlock
import Derived.Test.YtdjkibbnkklajaaGreatDoorM28
import Derived.Test.YtdjkibbnkklajaaGreatDoorM14
namespace Go.Proofs.YtdjkibbnkklajaaGreatDoor
open Go.RowKit Go

theorem Tryz.infoRTok : (Tryz.prog.info? 67).map (fun i => (i.zero, i.size, i.bytes)) = some (some (.agg #[.int .i64 0, .string ByteArray.empty, .string ByteArray.empty, .int .i64 0]), 4, 48) := by kernel_rfl
theorem Tryz.infoRNode : (Tryz.prog.info? 65).map (fun i => (i.zero, i.size, i.bytes)) = some (some (.agg #[.int .i64 0, .int .i64 0, .slice none 0 0]), 3, 40) := by kernel_rfl

/-- Where the copying of a tree stands. -/
def MT (w : World) (tv nv v1 v2 : Value) (W : World) : Prop :=
  W.heap[w.heap.size]? = some (.cells #[tv, nv] 26 (0, 0)) ∧ W.heap[w.heap.size + 1]? = some (.cells #[.slice none 0 0, .slice none 0 0] 47 (0, 0)) ∧ W.heap[w.heap.size + 1 + 1]? = some (.cells #[v1, v2] 47 (0, 0)) ∧ Below w.heap.size w W
theorem MT.lt {w W : World} {tv nv v1 v2 : Value} (h : MT w tv nv v1 v2 W) : w.heap.size + 1 + 1 < W.heap.size := (Array.getElem?_eq_some_iff.1 h.2.2.1).1
theorem MT.alloc {w W : World} {tv nv v1 v2 : Value} (h : MT w tv nv v1 v2 W) (o : Obj) : MT w tv nv v1 v2 (W.alloc o) := by
  have hl := h.lt
  exact ⟨(Lib.alloc_old _ _ _ (by omega)).trans h.1, (Lib.alloc_old _ _ _ (by omega)).trans h.2.1, (Lib.alloc_old _ _ _ hl).trans h.2.2.1, h.2.2.2.alloc h.2.2.2.size _⟩
theorem MT.grown {w W W' : World} {tv nv v1 v2 : Value} {row : Option Nat} (h : MT w tv nv v1 v2 W) (hg : W.grownBy W' row) (hr : ∀ q, row = some q → w.heap.size + 1 + 1 + 1 ≤ q) : MT w tv nv v1 v2 W' := by
  have hl := h.lt
  have hb : ∀ k, k ≤ w.heap.size + 1 + 1 → W'.heap[k]? = W.heap[k]? := fun k hk => hg.block k (by omega) (fun q => by have := hr k q.symm; omega)
  exact ⟨(hb _ (by omega)).trans h.1, (hb _ (by omega)).trans h.2.1, (hb _ (by omega)).trans h.2.2.1, h.2.2.2.grown hg h.2.2.2.size (fun q hq => by have := hr q hq; omega)⟩
theorem MT.set0 {w W : World} {tv nv v1 v2 : Value} (h : MT w tv nv v1 v2 W) (u : Value) : MT w tv nv u v2 (W.setCell ⟨w.heap.size + 1 + 1, 0, none⟩ u) :=
  ⟨(heap_setCell_other _ _ _ _ (by show _ ≠ w.heap.size + 1 + 1; omega)).trans h.1, (heap_setCell_other _ _ _ _ (by show _ ≠ w.heap.size + 1 + 1; omega)).trans h.2.1, heap_setCell_same _ _ _ _ _ _ h.2.2.1, h.2.2.2.setCell (by show w.heap.size ≤ w.heap.size + 1 + 1; omega) _⟩
theorem MT.set1 {w W : World} {tv nv v1 v2 : Value} (h : MT w tv nv v1 v2 W) (u : Value) : MT w tv nv v1 u (W.setCell ⟨w.heap.size + 1 + 1, 1, none⟩ u) :=
  ⟨(heap_setCell_other _ _ _ _ (by show _ ≠ w.heap.size + 1 + 1; omega)).trans h.1, (heap_setCell_other _ _ _ _ (by show _ ≠ w.heap.size + 1 + 1; omega)).trans h.2.1, heap_setCell_same _ _ _ _ _ _ h.2.2.1, h.2.2.2.setCell (by show w.heap.size ≤ w.heap.size + 1 + 1; omega) _⟩
theorem MT.cells {w W : World} {tv nv v1 v2 : Value} (h : MT w tv nv v1 v2 W) : W.cell? ⟨w.heap.size, 0, none⟩ = some tv ∧ W.cell? ⟨w.heap.size, 1, none⟩ = some nv ∧ W.cell? ⟨w.heap.size + 1 + 1, 0, none⟩ = some v1 ∧ W.cell? ⟨w.heap.size + 1 + 1, 1, none⟩ = some v2 ∧ ∀ j, W.frozen? ⟨w.heap.size + 1 + 1, j, none⟩ = false := by
  refine ⟨?_, ?_, ?_, ?_, fun j => by simp [World.frozen?, h.2.2.1]⟩
  · rw [Lib.cell_of_heap h.1]; rfl
  · rw [Lib.cell_of_heap h.1]; rfl
  · rw [Lib.cell_of_heap h.2.2.1]; rfl
  · rw [Lib.cell_of_heap h.2.2.1]; rfl

theorem own_type {w : World} {B e sz n q : Nat} {v : Value} {xs : List Value} (h : w.ownsRow B e sz v n xs) (hq : v.ownBlock = some q) : ∃ cs, w.heap[q]? = some (.cells cs e (0, 0)) := by
  rcases h.2 with ⟨rfl, _⟩ | ⟨g, cap, cur, rfl, _, hgg, _⟩
  · simp [Value.ownBlock] at hq
  · simp only [Value.ownBlock, Option.some.injEq] at hq
    subst hq
    exact ⟨_, hgg⟩

/-- What is handed back: the same tree, in blocks of its own. -/
def MTPost (toks : List Tok) (nodes : List Nd) (w : World) (e : Ending) (w' : World) : Prop :=
  ∃ at_ ct an cn, e = .returned (.agg #[.slice at_ toks.length ct, .slice an nodes.length cn]) ∧ TreeAt w'.heap.size w' (.agg #[.slice at_ toks.length ct, .slice an nodes.length cn]) toks nodes ∧ Below w.heap.size w w'

theorem flat_snoc {α : Type} (f : α → List Value) {l : List α} {k : Nat} (h : k < l.length) : (l.take (k + 1)).flatMap f = (l.take k).flatMap f ++ f l[k] := by
  rw [List.take_succ_eq_append_getElem h, List.flatMap_append]
  simp

set_option maxHeartbeats 2000000 in
set_option maxRecDepth 100000 in
theorem mtree_any (B : Nat) (tv nv : Value) (toks : List Tok) (nodes : List Nd) (w : World) (h : TreeAt B w (.agg #[tv, nv]) toks nodes) (hB : B ≤ w.heap.size) (hlt : toks.length ≤ 1000000) (hln : nodes.length ≤ 1000000) :
    Calls Tryz.prog 8 #[.agg #[tv, nv]] w (MTPost toks nodes w) := by
  obtain ⟨i0, hi, hz0, hz1, hz2⟩ := info_parts Tryz.infoRTok
  obtain ⟨i1, hj, hy0, hy1, hy2⟩ := info_parts Tryz.infoRNode
  obtain ⟨_, _, l, e, hT, hl, hN, hK⟩ := h
  obtain ⟨rfl, rfl⟩ : tv = _ ∧ nv = _ := by simpa using e
  subst hl
  rw [List.length_map] at hln
  obtain ⟨a1, c1, rfl, _, hT⟩ := hT.form (fun _ => rfl)
  obtain ⟨a2, c2, rfl, _, hN⟩ := hN.form (fun _ => rfl)
  have HT := Lib.hid hT
  have HN := Lib.hid hN
  have HK := Lib.hid hK
  have H0 : Hid (MT w (.slice a1 toks.length c1) (.slice a2 l.length c2) (.slice none 0 0) (.slice none 0 0) (((w.alloc (.cells #[.slice a1 toks.length c1, .slice a2 l.length c2] 26)).alloc (.cells #[.slice none 0 0, .slice none 0 0] 47)).alloc (.cells #[.slice none 0 0, .slice none 0 0] 47))) := Lib.hid (by
    have g0 := heap_alloc_new w (.cells #[.slice a1 toks.length c1, .slice a2 l.length c2] 26)
    have g1 := heap_alloc_new (w.alloc (.cells #[.slice a1 toks.length c1, .slice a2 l.length c2] 26)) (.cells #[.slice none 0 0, .slice none 0 0] 47)
    have g2 := heap_alloc_new ((w.alloc (.cells #[.slice a1 toks.length c1, .slice a2 l.length c2] 26)).alloc (.cells #[.slice none 0 0, .slice none 0 0] 47)) (.cells #[.slice none 0 0, .slice none 0 0] 47)
    rw [World.size_alloc] at g1
    rw [World.size_alloc, World.size_alloc] at g2
    exact ⟨(Lib.alloc_old _ _ _ (by simp; omega)).trans ((Lib.alloc_old _ _ _ (by simp)).trans g0), (Lib.alloc_old _ _ _ (by simp)).trans g1, g2, (((Below.refl _ w).alloc (Nat.le_refl _) _).alloc (by simp) _).alloc (by simp; omega) _⟩)
  obtain ⟨r0, r1, o0, o1, oz⟩ := H0.out.cells
  have hl0 := H0.out.lt
  clear hT hN hK e
  go_enter Tryz.func8, Tryz.ntmps8
  go_upto_region 3 with fail
  clear r0 r1 o0 o1 oz
  generalize ((w.alloc _).alloc _).alloc _ = w0 at H0 hl0 ⊢
  have HM : Hid (∃ v, MT w (.slice a1 toks.length c1) (.slice a2 l.length c2) v (.slice none 0 0) w0 ∧ w0.ownsRow (w.heap.size + 1 + 1 + 1) 67 4 v 0 ((toks.take 0).flatMap tokCells)) := Lib.hid ⟨_, H0.out, World.ownsRow_nil _ _ _ _⟩
  clear H0
  go_loopw [11] (fun q wr => ∃ (k : Nat) (v : Value), k ≤ toks.length ∧ q = .int .i64 k ∧ MT w (.slice a1 toks.length c1) (.slice a2 l.length c2) v (.slice none 0 0) wr ∧ wr.ownsRow (w.heap.size + 1 + 1 + 1) 67 4 v k ((toks.take k).flatMap tokCells)) (fun q _ => toks.length - (intOf q).toNat)
  case atStart =>
    obtain ⟨v, h1, h2⟩ := HM.out
    exact ⟨0, v, Nat.zero_le _, rfl, h1, h2⟩
  case round =>
    obtain ⟨k, v, hk, rfl, hm, hown⟩ := hrel
    have hbl := hm.2.2.2
    have hlt3 := hm.lt
    by_cases hkl : k < toks.length
    · obtain ⟨b, off, rfl, hbB, hcell⟩ := HT.out (by omega)
      have hc0 := (hbl.cell (p := ⟨b, off + k * 4, none⟩) (by show b < w.heap.size; omega)).trans (hcell k 0 _ hkl rfl)
      have hc1 := (hbl.cell (p := ⟨b, off + k * 4 + 1, none⟩) (by show b < w.heap.size; omega)).trans (hcell k 1 _ hkl rfl)
      have hc2 := (hbl.cell (p := ⟨b, off + k * 4 + 2, none⟩) (by show b < w.heap.size; omega)).trans (hcell k 2 _ hkl rfl)
      have hc3 := (hbl.cell (p := ⟨b, off + k * 4 + 3, none⟩) (by show b < w.heap.size; omega)).trans (hcell k 3 _ hkl rfl)
      have HSN := Lib.hid (flat_snoc tokCells hkl)
      generalize toks[k] = t at hc0 hc1 hc2 hc3 HSN
      have hkI : (k : Int) < (toks.length : Int) := by omega
      obtain ⟨-, -, o0, -, oz⟩ := hm.cells
      have HMT := Lib.hid hm
      obtain ⟨va, vc, rfl⟩ : ∃ va vc, v = .slice va k vc := by
        rcases hown.2 with ⟨hv, hn0⟩ | ⟨g, cap, cur, hv, _⟩
        · exact ⟨none, 0, by rw [hv, hn0]⟩
        · exact ⟨_, cap, hv⟩
      clear hcell hm
      go_wp2_with (at_builtin; refine wpList_append_lies _ rfl _ _ 44 rfl (w.heap.size + 1 + 1 + 1) 67 i0 (.agg #[.int .i64 0, .string ByteArray.empty, .string ByteArray.empty, .int .i64 0]) 4 48 Tryz.underlying44 hi hz0 hz1 hz2 rfl (by decide) _ k _ rfl ((hown.alloc _).alloc _) ⟨wr.heap.size + 1, 0, none⟩ 1 1 [.int .i64 t.kind, .string ⟨t.lead.toArray⟩, .string ⟨t.text.toArray⟩, .int .i64 t.place] rfl rfl ?c1 ?c2 ?c3 ?c4 ?c5 ?c6 _ rfl ?_)
      case c1 =>
        intro j' u hj'
        have hq := heap_alloc_new (wr.alloc (.cells #[.int .i64 t.kind, .string ⟨t.lead.toArray⟩, .string ⟨t.text.toArray⟩, .int .i64 t.place] 71)) (.cells #[.int .i64 t.kind, .string ⟨t.lead.toArray⟩, .string ⟨t.text.toArray⟩, .int .i64 t.place] 67)
        rw [World.size_alloc] at hq
        exact World.news_of_block hq j' u (by simpa using hj')
      case c2 => intro u hu; simp at hu; rcases hu with rfl | rfl | rfl | rfl <;> rfl
      case c3 => omega
      case c4 => unfold maxLen; omega
      case c5 => omega
      case c6 => simp; omega
      intro g cap w3 hown3 hgrow3 hat3 hlt3
      have hm3 := ((HMT.out.alloc _).alloc _).grown hgrow3 (fun q hq => (hown.lt q hq).1)
      obtain ⟨-, -, o3, -, oz3⟩ := hm3.cells
      have hmS := hm3.set0 (.slice (some ⟨g, 0, none⟩) (k + 1) cap)
      have hrS : (w3.setCell ⟨w.heap.size + 1 + 1, 0, none⟩ (.slice (some ⟨g, 0, none⟩) (k + 1) cap)).ownsRow (w.heap.size + 1 + 1 + 1) 67 4 (.slice (some ⟨g, 0, none⟩) (k + 1) cap) (k + 1) ((toks.take (k + 1)).flatMap tokCells) := by
        rw [HSN.out]
        exact own_set hown3 (fun q => by have := (hown3.lt _ q.symm).1; simp at this; omega) _
      have HNX := Lib.hid (And.intro hmS hrS)
      clear hgrow3 hown3 hat3 hlt3 hown hm3 hc0 hc1 hc2 hc3 o0 oz hmS hrS hbl
      go_wp2
      exact ⟨⟨k + 1, _, by omega, by go_num, HNX.out.1, HNX.out.2⟩, by simp [intOf]; omega⟩
    · obtain rfl : k = toks.length := by omega
      have hkI : decide ((toks.length : Int) < (toks.length : Int)) = false := decide_eq_false (by omega)
      rw [List.take_length] at hown
      obtain ⟨r0, r1, -, -, -⟩ := hm.cells
      have HM2 : Hid (∃ v2, MT w (.slice a1 toks.length c1) (.slice a2 l.length c2) v v2 wr ∧ wr.ownsRow (w.heap.size + 1 + 1 + 1) 67 4 v toks.length (toks.flatMap tokCells) ∧ wr.ownsRow (w.heap.size + 1 + 1 + 1) 65 3 v2 0 ((l.take 0).flatMap nodeCells)) := Lib.hid ⟨_, hm, hown, World.ownsRow_nil _ _ _ _⟩
      clear hm hown hlt3 hbl
      obtain ⟨u, rfl⟩ : ∃ u : Value, u = v := ⟨_, rfl⟩
      go_wp2_with fail
      go_loopw [25] (fun q wr => ∃ (k : Nat) (v2 : Value), k ≤ l.length ∧ q = .int .i64 k ∧ MT w (.slice a1 toks.length c1) (.slice a2 l.length c2) u v2 wr ∧ wr.ownsRow (w.heap.size + 1 + 1 + 1) 67 4 u toks.length (toks.flatMap tokCells) ∧ wr.ownsRow (w.heap.size + 1 + 1 + 1) 65 3 v2 k ((l.take k).flatMap nodeCells)) (fun q _ => l.length - (intOf q).toNat)
      case atStart =>
        obtain ⟨v2, h1, h2⟩ := HM2.out
        exact ⟨0, v2, Nat.zero_le _, rfl, h1, h2⟩
      case round =>
        obtain ⟨k, v, hk, rfl, hm, htow, hown⟩ := hrel
        have hbl := hm.2.2.2
        have hlt3 := hm.lt
        by_cases hkl : k < l.length
        · obtain ⟨b, off, rfl, hbB, hcell⟩ := HN.out (by omega)
          have hc0 := (hbl.cell (p := ⟨b, off + k * 3, none⟩) (by show b < w.heap.size; omega)).trans (hcell k 0 _ hkl rfl)
          have hc1 := (hbl.cell (p := ⟨b, off + k * 3 + 1, none⟩) (by show b < w.heap.size; omega)).trans (hcell k 1 _ hkl rfl)
          have hc2 := (hbl.cell (p := ⟨b, off + k * 3 + 2, none⟩) (by show b < w.heap.size; omega)).trans (hcell k 2 _ hkl rfl)
          have HSN := Lib.hid (flat_snoc nodeCells hkl)
          obtain ⟨ak, ck, hkv, -, -⟩ := (HK.out _ (List.getElem_mem hkl)).form
          generalize l[k] = nd at hc0 hc1 hc2 HSN hkv
          obtain ⟨nd, kv⟩ := nd
          simp only at hkv hc0 hc1 hc2
          subst hkv
          have hkI : (k : Int) < (l.length : Int) := by omega
          obtain ⟨-, -, -, o0, oz⟩ := hm.cells
          have HMT := Lib.hid hm
          have HTW := Lib.hid htow
          obtain ⟨va, vc, rfl⟩ : ∃ va vc, v = .slice va k vc := by
            rcases hown.2 with ⟨hv, hn0⟩ | ⟨g, cap, cur, hv, _⟩
            · exact ⟨none, 0, by rw [hv, hn0]⟩
            · exact ⟨_, cap, hv⟩
          clear hcell hm htow
          generalize hnl : nd.kids.length = nl at hc2
          have HNL := Lib.hid hnl
          clear hnl
          go_wp2_with (at_builtin; refine wpList_append_lies _ rfl _ _ 45 rfl (w.heap.size + 1 + 1 + 1) 65 i1 (.agg #[.int .i64 0, .int .i64 0, .slice none 0 0]) 3 40 Tryz.underlying45 hj hy0 hy1 hy2 rfl (by decide) _ k _ rfl ((hown.alloc _).alloc _) ⟨wr.heap.size + 1, 0, none⟩ 1 1 [.int .i64 nd.kind, .int .i64 nd.tok, .slice ak nl ck] rfl rfl ?e1 ?e2 ?e3 ?e4 ?e5 ?e6 _ rfl ?_)
          case e1 =>
            intro j' u hj'
            have hq := heap_alloc_new (wr.alloc (.cells #[.int .i64 nd.kind, .int .i64 nd.tok, .slice ak nl ck] 51)) (.cells #[.int .i64 nd.kind, .int .i64 nd.tok, .slice ak nl ck] 65)
            rw [World.size_alloc] at hq
            exact World.news_of_block hq j' u (by simpa using hj')
          case e2 => intro u hu; simp at hu; rcases hu with rfl | rfl | rfl <;> rfl
          case e3 => omega
          case e4 => unfold maxLen; omega
          case e5 => omega
          case e6 => simp; omega
          intro g cap w3 hown3 hgrow3 hat3 hlt3
          have hm3 := ((HMT.out.alloc _).alloc _).grown hgrow3 (fun q hq => (hown.lt q hq).1)
          obtain ⟨-, -, -, o3, oz3⟩ := hm3.cells
          have hmS := hm3.set1 (.slice (some ⟨g, 0, none⟩) (k + 1) cap)
          have htS : (w3.setCell ⟨w.heap.size + 1 + 1, 1, none⟩ (.slice (some ⟨g, 0, none⟩) (k + 1) cap)).ownsRow (w.heap.size + 1 + 1 + 1) 67 4 u toks.length (toks.flatMap tokCells) := by
            have ht3 : w3.ownsRow (w.heap.size + 1 + 1 + 1) 67 4 u toks.length (toks.flatMap tokCells) := own_keep ((HTW.out.alloc _).alloc _) (fun q hq => by
              obtain ⟨cs, hcs⟩ := own_type ((HTW.out.alloc (.cells #[.int .i64 nd.kind, .int .i64 nd.tok, .slice ak nl ck] 51)).alloc (.cells #[.int .i64 nd.kind, .int .i64 nd.tok, .slice ak nl ck] 65)) hq
              exact (own_block ((hown.alloc _).alloc _) hgrow3 hcs (by decide)).trans hcs.symm)
            exact own_set ht3 (fun q => by have := (ht3.lt _ q.symm).1; simp at this; omega) _
          have hrS : (w3.setCell ⟨w.heap.size + 1 + 1, 1, none⟩ (.slice (some ⟨g, 0, none⟩) (k + 1) cap)).ownsRow (w.heap.size + 1 + 1 + 1) 65 3 (.slice (some ⟨g, 0, none⟩) (k + 1) cap) (k + 1) ((l.take (k + 1)).flatMap nodeCells) := by
            rw [HSN.out]
            refine own_set ?_ (fun q => by have := (hown3.lt _ q.symm).1; simp at this; omega) _
            show w3.ownsRow _ _ _ _ _ (_ ++ [.int .i64 nd.kind, .int .i64 nd.tok, .slice ak nd.kids.length ck])
            rw [HNL.out]
            exact hown3
          have HNX := Lib.hid (And.intro hmS (And.intro htS hrS))
          clear hgrow3 hown3 hat3 hlt3 hown hm3 hc0 hc1 hc2 o0 oz hmS hrS hbl htS
          go_wp2
          exact ⟨⟨k + 1, _, by omega, by go_num, HNX.out⟩, by simp [intOf]; omega⟩
        · obtain rfl : k = l.length := by omega
          have hkI : decide ((l.length : Int) < (l.length : Int)) = false := decide_eq_false (by omega)
          rw [List.take_length] at hown
          obtain ⟨-, -, o0, o1, -⟩ := hm.cells
          have p0 : wr.cell? ⟨w.heap.size + 1, 0, none⟩ = some (.slice none 0 0) := by rw [Lib.cell_of_heap hm.2.1]; rfl
          have p1 : wr.cell? ⟨w.heap.size + 1, 1, none⟩ = some (.slice none 0 0) := by rw [Lib.cell_of_heap hm.2.1]; rfl
          have pz : ∀ j, wr.frozen? ⟨w.heap.size + 1, j, none⟩ = false := by intro j; simp [World.frozen?, hm.2.1]
          obtain ⟨ta, tc, rfl, -⟩ := Sl.ofOwns htow
          obtain ⟨na, nc, rfl, -⟩ := Sl.ofOwns hown
          have HZ := Lib.hid (And.intro htow (And.intro hown hbl))
          clear hm htow hown hbl
          go_wp2
          have hbZ : Below w.heap.size w ((wr.setCell ⟨w.heap.size + 1, 0, none⟩ (.slice ta toks.length tc)).setCell ⟨w.heap.size + 1, 1, none⟩ (.slice na l.length nc)) := (HZ.out.2.2.setCell (by simp) _).setCell (by simp) _
          refine bodyPost_ret (v := .agg #[.slice ta toks.length tc, .slice na l.length nc]) (by simp [results, Tryz.results8, go_sem, p0, p1]) rfl ⟨ta, tc, na, nc, by rw [List.length_map], ?_, hbZ⟩
          rw [List.length_map]
          have ht2 := own_set (own_set HZ.out.1 (fun q => by have := (HZ.out.1.lt _ q.symm).1; simp at this; omega) (a := ⟨w.heap.size + 1, 0, none⟩) (.slice ta toks.length tc)) (fun q => by have := (HZ.out.1.lt _ q.symm).1; simp at this; omega) (a := ⟨w.heap.size + 1, 1, none⟩) (.slice na l.length nc)
          have hn2 := own_set (own_set HZ.out.2.1 (fun q => by have := (HZ.out.2.1.lt _ q.symm).1; simp at this; omega) (a := ⟨w.heap.size + 1, 0, none⟩) (.slice ta toks.length tc)) (fun q => by have := (HZ.out.2.1.lt _ q.symm).1; simp at this; omega) (a := ⟨w.heap.size + 1, 1, none⟩) (.slice na l.length nc)
          exact ⟨_, _, l, rfl, Sl.ofOwns ht2, rfl, Sl.ofOwns hn2, fun p hp => ((HK.out p hp).below (hbZ.mono hB)).mono (Nat.le_trans hB hbZ.size)⟩
end Go.Proofs.YtdjkibbnkklajaaGreatDoor

namespace Go.Proofs.YtdjkibbnkklajaaGreatDoor
open Go.RowKit Go

/-- A node's token, if it is a leaf. -/
def zeroTok : Tok := ⟨0, [], [], 0⟩

set_option maxHeartbeats 1000000 in
set_option maxRecDepth 100000 in
theorem fleaf_yes (B : Nat) (tv nv : Value) (toks : List Tok) (nodes : List Nd) (i u : Nat) (w : World) (h : TreeAt B w (.agg #[tv, nv]) toks nodes) (hB : B ≤ w.heap.size) (hn : nodes[i]? = some ⟨19, (u : Nat), []⟩) (hu : u < toks.length) :
    Calls Tryz.prog 20 #[.agg #[tv, nv], .int .i64 i] w fun e w' => e = .returned (tokVal toks[u]) ∧ Below w.heap.size w w' := by
  obtain ⟨hi, hni⟩ := List.getElem?_eq_some_iff.1 hn
  obtain ⟨b, off, cap, kv, rfl, hb, x0, x1, _, _⟩ := h.node hi
  obtain ⟨b2, off2, cap2, rfl, hb2, t0, t1, t2, t3⟩ := h.tok hu
  rw [hni] at x0 x1
  simp only at x0 x1
  generalize toks[u] = t at t0 t1 t2 t3
  obtain ⟨c, x, y, q⟩ := t
  simp only [strV] at t0 t1 t2 t3
  have hal := ((Below.refl w.heap.size w).alloc (Nat.le_refl _) (.cells #[.slice (some ⟨b2, off2, none⟩) toks.length cap2, .slice (some ⟨b, off, none⟩) nodes.length cap] 47)).alloc (by simp) (.cells #[.int .i64 0, .string ⟨#[]⟩, .string ⟨#[]⟩, .int .i64 0] 67)
  have x0' := cell_later hal x0
  have x1' := cell_later hal x1
  have y0 := cell_later hal t0
  have y1 := cell_later hal t1
  have y2 := cell_later hal t2
  have y3 := cell_later hal t3
  have i1 : (i : Int) < (nodes.length : Int) := by omega
  have i2 : (u : Int) < (toks.length : Int) := by omega
  have hnr : ((w.alloc (.cells #[.slice (some ⟨b2, off2, none⟩) toks.length cap2, .slice (some ⟨b, off, none⟩) nodes.length cap] 47)).alloc (.cells #[.int .i64 0, .string ⟨#[]⟩, .string ⟨#[]⟩, .int .i64 0] 67)).heap[w.heap.size]? = some (.cells #[.slice (some ⟨b2, off2, none⟩) toks.length cap2, .slice (some ⟨b, off, none⟩) nodes.length cap] 47 (0, 0)) := (Lib.alloc_old _ _ _ (by simp)).trans (heap_alloc_new w _)
  have hnw := heap_alloc_new (w.alloc (.cells #[.slice (some ⟨b2, off2, none⟩) toks.length cap2, .slice (some ⟨b, off, none⟩) nodes.length cap] 47)) (.cells #[.int .i64 0, .string ⟨#[]⟩, .string ⟨#[]⟩, .int .i64 0] 67)
  rw [World.size_alloc] at hnw
  clear t0 t1 t2 t3 x0 x1 hn hni h
  go_enter Tryz.func20, Tryz.ntmps20
  go_upto_region 1 with fail
  generalize (w.alloc _).alloc _ = w1 at hnr hnw hal x0' x1' y0 y1 y2 y3 ⊢
  have r0 : w1.cell? ⟨w.heap.size, 0, none⟩ = some (.slice (some ⟨b2, off2, none⟩) toks.length cap2) := by rw [Lib.cell_of_heap hnr]; rfl
  have r1 : w1.cell? ⟨w.heap.size, 1, none⟩ = some (.slice (some ⟨b, off, none⟩) nodes.length cap) := by rw [Lib.cell_of_heap hnr]; rfl
  go_upto_region 3 with fail
  go_still_tail 10, (by kernel_rfl)
  change wpList _ _ _ _ _ w1.drew
  have hald := hal.drew
  have hnw2 : w1.drew.heap[w.heap.size + 1]? = some (.cells #[.int .i64 0, .string ⟨#[]⟩, .string ⟨#[]⟩, .int .i64 0] 67 (0, 0)) := hnw
  generalize w1.drew = w2 at hald hnw2 ⊢
  have f0 : w2.cell? ⟨w.heap.size + 1, 0, none⟩ = some (.int .i64 0) := by rw [Lib.cell_of_heap hnw2]; rfl
  have f1 : w2.cell? ⟨w.heap.size + 1, 1, none⟩ = some (.string ⟨#[]⟩) := by rw [Lib.cell_of_heap hnw2]; rfl
  have f2 : w2.cell? ⟨w.heap.size + 1, 2, none⟩ = some (.string ⟨#[]⟩) := by rw [Lib.cell_of_heap hnw2]; rfl
  have f3 : w2.cell? ⟨w.heap.size + 1, 3, none⟩ = some (.int .i64 0) := by rw [Lib.cell_of_heap hnw2]; rfl
  have z0 : ∀ j, w2.frozen? ⟨w.heap.size + 1, j, none⟩ = false := by intro j; simp [World.frozen?, hnw2]
  clear hnw hnw2 i1 i2 y0 y1 y2 y3 r0 r1 x0' x1'
  go_wp2
  refine bodyPost_ret (v := .agg #[.int .i64 c, .string ⟨x.toArray⟩, .string ⟨y.toArray⟩, .int .i64 q]) (by simp [results, Tryz.results20, go_sem, f0, f1, f2, f3]) rfl ⟨rfl, ?_⟩
  exact (((hald.setCell (by simp) _).setCell (by simp) _).setCell (by simp) _).setCell (by simp) _

set_option maxHeartbeats 1000000 in
set_option maxRecDepth 100000 in
theorem fleaf_no (B : Nat) (tv nv : Value) (toks : List Tok) (nodes : List Nd) (i : Nat) (nd : Nd) (w : World) (h : TreeAt B w (.agg #[tv, nv]) toks nodes) (hB : B ≤ w.heap.size) (hn : nodes[i]? = some nd) (hk : nd.kind ≠ 19) :
    Calls Tryz.prog 20 #[.agg #[tv, nv], .int .i64 i] w fun e w' => e = .returned (tokVal zeroTok) ∧ Below w.heap.size w w' := by
  obtain ⟨hi, hni⟩ := List.getElem?_eq_some_iff.1 hn
  obtain ⟨a1, c1, _, _, e⟩ := h.slices
  obtain ⟨b, off, cap, kv, rfl, hb, x0, _, _, _⟩ := h.node hi
  obtain ⟨rfl, -⟩ : tv = .slice a1 toks.length c1 ∧ _ := by simpa using e
  rw [hni] at x0
  have hkI : (nd.kind == 19) = false := beq_eq_false_iff_ne.2 hk
  generalize nd.kind = kd at x0 hkI
  have hal := ((Below.refl w.heap.size w).alloc (Nat.le_refl _) (.cells #[.slice a1 toks.length c1, .slice (some ⟨b, off, none⟩) nodes.length cap] 47)).alloc (by simp) (.cells #[.int .i64 0, .string ⟨#[]⟩, .string ⟨#[]⟩, .int .i64 0] 67)
  have x0' := cell_later hal x0
  have i1 : (i : Int) < (nodes.length : Int) := by omega
  have hnr : ((w.alloc (.cells #[.slice a1 toks.length c1, .slice (some ⟨b, off, none⟩) nodes.length cap] 47)).alloc (.cells #[.int .i64 0, .string ⟨#[]⟩, .string ⟨#[]⟩, .int .i64 0] 67)).heap[w.heap.size]? = some (.cells #[.slice a1 toks.length c1, .slice (some ⟨b, off, none⟩) nodes.length cap] 47 (0, 0)) := (Lib.alloc_old _ _ _ (by simp)).trans (heap_alloc_new w _)
  have hnw := heap_alloc_new (w.alloc (.cells #[.slice a1 toks.length c1, .slice (some ⟨b, off, none⟩) nodes.length cap] 47)) (.cells #[.int .i64 0, .string ⟨#[]⟩, .string ⟨#[]⟩, .int .i64 0] 67)
  rw [World.size_alloc] at hnw
  clear x0 hn hni h hk e
  go_enter Tryz.func20, Tryz.ntmps20
  go_upto_region 1 with fail
  generalize (w.alloc _).alloc _ = w1 at hnr hnw hal x0' ⊢
  have r0 : w1.cell? ⟨w.heap.size, 0, none⟩ = some (.slice a1 toks.length c1) := by rw [Lib.cell_of_heap hnr]; rfl
  have r1 : w1.cell? ⟨w.heap.size, 1, none⟩ = some (.slice (some ⟨b, off, none⟩) nodes.length cap) := by rw [Lib.cell_of_heap hnr]; rfl
  have f0 : w1.cell? ⟨w.heap.size + 1, 0, none⟩ = some (.int .i64 0) := by rw [Lib.cell_of_heap hnw]; rfl
  have f1 : w1.cell? ⟨w.heap.size + 1, 1, none⟩ = some (.string ⟨#[]⟩) := by rw [Lib.cell_of_heap hnw]; rfl
  have f2 : w1.cell? ⟨w.heap.size + 1, 2, none⟩ = some (.string ⟨#[]⟩) := by rw [Lib.cell_of_heap hnw]; rfl
  have f3 : w1.cell? ⟨w.heap.size + 1, 3, none⟩ = some (.int .i64 0) := by rw [Lib.cell_of_heap hnw]; rfl
  have z0 : ∀ j, w1.frozen? ⟨w.heap.size + 1, j, none⟩ = false := by intro j; simp [World.frozen?, hnw]
  go_wp2
  refine bodyPost_ret (v := .agg #[.int .i64 0, .string ⟨#[]⟩, .string ⟨#[]⟩, .int .i64 0]) (by simp [results, Tryz.results20, go_sem, f0, f1, f2, f3]) rfl ⟨rfl, ?_⟩
  exact (((hal.setCell (by simp) _).setCell (by simp) _).setCell (by simp) _).setCell (by simp) _

def binCells : Array Value := #[.string (binAt 0), .string (binAt 1), .string (binAt 2), .string (binAt 3), .string (binAt 4), .string (binAt 5), .string (binAt 6), .string (binAt 7), .string (binAt 8), .string (binAt 9), .string (binAt 10), .string (binAt 11), .string (binAt 12), .string (binAt 13)]
theorem binCells_at : ∀ k : Nat, k < 14 → binCells[k]? = some (.string (binAt k))
  | 0, _ => rfl
  | 1, _ => rfl
  | 2, _ => rfl
  | 3, _ => rfl
  | 4, _ => rfl
  | 5, _ => rfl
  | 6, _ => rfl
  | 7, _ => rfl
  | 8, _ => rfl
  | 9, _ => rfl
  | 10, _ => rfl
  | 11, _ => rfl
  | 12, _ => rfl
  | 13, _ => rfl
  | n + 14, h => absurd h (by omega)

set_option maxHeartbeats 1000000 in
set_option maxRecDepth 100000 in
theorem fop_any (m : Nat) (hm : m < 14) (w : World) :
    Calls Tryz.prog 22 #[.string (binAt m)] w fun e w' => e = .returned (.int .i64 (7 + m : Nat)) ∧ Below w.heap.size w w' := by
  go_enter Tryz.func22, Tryz.ntmps22
  go_upto_region 3 with fail
  have hnew := heap_alloc_new w (.cells binCells 93)
  have hbl := below_new w (.cells binCells 93)
  have hcell : ∀ k : Nat, k < 14 → (w.alloc (.cells binCells 93)).cell? ⟨w.heap.size, k, none⟩ = some (.string (binAt k)) := fun k hk => by rw [Lib.cell_of_heap hnew]; exact binCells_at k hk
  change Code.wp _ _ _ _ (w.alloc (.cells binCells 93))
  have HC := Lib.hid hcell
  clear hcell hnew
  generalize w.alloc _ = w1 at HC hbl ⊢
  go_loop [4] (fun q => ∃ k : Nat, k ≤ m ∧ q = .int .i64 k) (fun q => 14 - (intOf q).toNat)
  case atStart => exact ⟨0, Nat.zero_le _, rfl⟩
  case round =>
    obtain ⟨k, hk, rfl⟩ := hrel
    have hkI : (k : Int) < 14 := by omega
    have hx := HC.out k (by omega)
    by_cases hkm : k = m
    · subst hkm
      have he := bin_same k
      go_wp2
      go_ret
      exact ⟨ret_int (by omega), hbl⟩
    · have he := bin_ne k m (by omega) hm hkm
      go_wp2
      go_round
      case rel => exact ⟨k + 1, by omega, by go_num⟩
      case measure => simp [intOf]; omega
end Go.Proofs.YtdjkibbnkklajaaGreatDoor
