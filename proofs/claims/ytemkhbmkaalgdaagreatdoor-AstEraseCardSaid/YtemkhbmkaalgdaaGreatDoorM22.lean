/- The walks of the code that the claim reaches, and the plain laws: RParamW, OwnQ, LeavesW1. No condition of ours. -/
import Derived.Test.YtemkhbmkaalgdaaGreatDoorM21
import Derived.Test.YtemkhbmkaalgdaaGreatDoorM17
import Derived.RangeFuncBox
import Derived.RangeFuncNested
import Derived.RangeFuncBound
import Derived.RangeFuncCalls
import Derived.RangeFuncLeaves
import Derived.RangeFuncWrites
import Derived.Shelf.Abstract
import Derived.Shelf.RegionOpen
import Derived.WalkKit
import Derived.OwnWalkIn
import Derived.TacticsInMore
import Derived.LoopNIn
import Derived.LoopIn
import Derived.Sort.LoopGhostIn
import Derived.Test.YtemkhbmkaalgdaaGreatDoorM09
namespace Go.Proofs.YtemkhbmkaalgdaaGreatDoor
open Go.RowKit Go
def RpPost (f : FF) (w : World) (e : Ending) (w' : World) : Prop := ∃ ao cap, e = .returned (.agg #[.string ⟨f.name.toArray⟩, .int .i64 f.base, .slice ao f.clause.length cap, .int .i64 f.at_, .int .i64 f.bare]) ∧ RowK (EK XA) (fun b => w.heap.size ≤ b) w' (.slice ao f.clause.length cap) f.clause ∧ Below w.heap.size w w'
theorem par_cells {w : World} {b : Nat} {c0 c1 c2 c3 c4 : Value} (h : w.heap[b]? = some (.cells #[c0, c1, c2, c3, c4] 56 (0, 0))) : w.cell? ⟨b, 0, none⟩ = some c0 ∧ w.cell? ⟨b, 1, none⟩ = some c1 ∧ w.cell? ⟨b, 2, none⟩ = some c2 ∧ w.cell? ⟨b, 3, none⟩ = some c3 ∧ w.cell? ⟨b, 4, none⟩ = some c4 ∧ ∀ j, w.frozen? ⟨b, j, none⟩ = false := by
  refine ⟨?_, ?_, ?_, ?_, ?_, fun j => by simp [World.frozen?, h]⟩ <;> (rw [Lib.cell_of_heap h]; rfl)
set_option maxHeartbeats 4000000 in
set_option maxRecDepth 100000 in
theorem rparam_any (B : Nat) (tv nv : Value) (toks : List Tok) (nodes : List Nd) (i kd : Nat) (ks : List Int) (w : World) (h : TreeAt B w (.agg #[tv, nv]) toks nodes) (hB : B ≤ w.heap.size) (hn : nodes[i]? = some ⟨(kd : Nat), -1, ks⟩)
    (k0 u0 : Nat) (hq0 : ks[0]? = some (k0 : Int)) (hl0 : nodes[k0]? = some ⟨19, (u0 : Nat), []⟩) (hu0 : u0 < toks.length) (a : TyA)
    (hA : ∀ W : World, TreeAt B W (.agg #[tv, nv]) toks nodes → B ≤ W.heap.size → Calls Tryz.prog 47 #[.agg #[tv, nv], .int .i64 i] W (RtPost a W)) :
    Calls Tryz.prog 48 #[.agg #[tv, nv], .int .i64 i] w (RpPost ⟨textAt toks u0, a.base, a.clause, placeAt toks u0, a.bare⟩ w) := by
  have hK := fun W hT hW => rtoken_any B tv nv toks nodes k0 u0 W hT hW hl0 hu0
  have htk : toks[u0] = peekF toks u0 := by have := tok_peek hu0; rw [List.getElem?_eq_getElem hu0] at this; exact Option.some.inj this
  rw [htk] at hK
  unfold tokVal strV at hK
  unfold textAt placeAt
  generalize peekF toks u0 = t at hK ⊢
  obtain ⟨tk, tl, tt, tp⟩ := t
  simp only at hK ⊢
  have HK := Lib.hid hK
  have HA := Lib.hid hA
  obtain ⟨hp0, hp0'⟩ := List.getElem?_eq_some_iff.1 hq0
  obtain ⟨hi, hni⟩ := List.getElem?_eq_some_iff.1 hn
  have HT := Lib.hid h
  obtain ⟨a1, c1, _, _, e⟩ := h.slices
  obtain ⟨b, off, cap, kv, rfl, hb, x0, x1, x2, hkv⟩ := h.node hi
  obtain ⟨rfl, -⟩ : tv = .slice a1 toks.length c1 ∧ _ := by simpa using e
  rw [hni] at hkv
  simp only at hkv
  obtain ⟨ak, ck, rfl, _, hkf⟩ := hkv.form
  obtain ⟨bk, ok, rfl, hbk, hkc⟩ := hkf (by omega)
  have hz := hkc 0 hp0
  rw [hp0', Nat.add_zero] at hz
  clear e hkv hkf hkc hn hni x0 x1 hK htk hA hl0 hp0'
  have hal2 := ((Below.refl w.heap.size w).alloc (Nat.le_refl _) (.cells #[.slice a1 toks.length c1, .slice (some ⟨b, off, none⟩) nodes.length cap] 88)).alloc (by simp) (.cells #[.string ⟨#[]⟩, .int .i64 0, .slice none 0 0, .int .i64 0, .int .i64 0] 56)
  have X2 := cell_later hal2 x2
  have Z2 := cell_later hal2 hz
  have g0 := (Lib.alloc_old _ (.cells #[.string ⟨#[]⟩, .int .i64 0, .slice none 0 0, .int .i64 0, .int .i64 0] 56) w.heap.size (by simp)).trans (heap_alloc_new w (.cells #[.slice a1 toks.length c1, .slice (some ⟨b, off, none⟩) nodes.length cap] 88))
  have g1 := heap_alloc_new (w.alloc (.cells #[.slice a1 toks.length c1, .slice (some ⟨b, off, none⟩) nodes.length cap] 88)) (.cells #[.string ⟨#[]⟩, .int .i64 0, .slice none 0 0, .int .i64 0, .int .i64 0] 56)
  rw [World.size_alloc] at g1
  have hiI : (i : Int) < (nodes.length : Int) := by omega
  have hp0I : (0 : Int) < (ks.length : Int) := by omega
  clear h x2 hz
  go_enter Tryz.func48, Tryz.ntmps48
  go_upto_region 1 with (fail)
  generalize (w.alloc _).alloc _ = w2 at g0 g1 hal2 X2 Z2 ⊢
  obtain ⟨r0, r1⟩ := rd_cells g0
  have hz2 := hal2.size
  have HK' := Lib.hid (fun W (hb : Below w2.heap.size w2 W) => (HK.out W (HT.out.below ((hal2.trans (hb.mono hz2)).mono hB)) (by have := hb.size; omega)).mono (R' := fun e w' => e = .returned (.agg #[.int .i64 tk, .string ⟨tl.toArray⟩, .string ⟨tt.toArray⟩, .int .i64 tp]) ∧ Below w2.heap.size w2 w' ∧ Below W.heap.size W w') fun e w' h => ⟨h.1, hb.trans (h.2.mono hb.size), h.2⟩)
  have hlt2 : w.heap.size + 1 < w2.heap.size := (Array.getElem?_eq_some_iff.1 g1).1
  go_cut [5] (fun p wc => ∃ X : Nat, p = .pointer (some ⟨X, 0, none⟩) ∧ wc.heap[X]? = some (.cells #[.int .i64 tk, .string ⟨tl.toArray⟩, .string ⟨tt.toArray⟩, .int .i64 tp] 83 (0, 0)) ∧ Below w2.heap.size w2 wc)
  case first =>
    go_region_held3 (fun w' => w'.cell? ⟨w.heap.size, 0, none⟩ = some (.slice a1 toks.length c1) ∧ w'.cell? ⟨w.heap.size, 1, none⟩ = some (.slice (some ⟨b, off, none⟩) nodes.length cap) ∧ w'.cell? ⟨b, off + i * 3 + 2, none⟩ = some (.slice (some ⟨bk, ok, none⟩) ks.length ck) ∧ w'.cell? ⟨bk, ok, none⟩ = some (.int .i64 k0))
      (first | go_keep | exact p3 | exact ⟨(set4_cell w3 w2.heap.size _ _ _ _ (by omega)).trans p3.1, (set4_cell w3 w2.heap.size _ _ _ _ (by omega)).trans p3.2.1, (set4_cell w3 w2.heap.size _ _ _ _ (by omega)).trans p3.2.2.1, (set4_cell w3 w2.heap.size _ _ _ _ (by omega)).trans p3.2.2.2⟩)
      (first | (go_at_call 29; refine (HK'.out _ ?_).mono ?_; (first | exact (Below.refl _ _).drew | exact ((Below.refl _ _).alloc (Nat.le_refl _) _).drew); rintro e w3 ⟨rfl, hq3, hb3⟩; have p3 := And.intro (cell_later hq3 r0) (And.intro (cell_later hq3 r1) (And.intro (cell_later hq3 X2) (cell_later hq3 Z2))); try (have hTz := (hb3.block w2.heap.size (by simp)).trans (heap_alloc_new w2 (.cells #[.int .i64 0, .string ⟨#[]⟩, .string ⟨#[]⟩, .int .i64 0] 83)); obtain ⟨tz0, tz1, tz2, tz3, tz4⟩ := tok0_cells hTz)))
    · clear r0 r1 X2 Z2 p3
      go_wp2_with fail
      go_meet
      exact ⟨w3.heap.size, rfl, heap_alloc_new _ _, hq3.alloc hq3.size _⟩
    · obtain ⟨S3, So, _⟩ := store4 hTz (.int .i64 tk) (.string ⟨tl.toArray⟩) (.string ⟨tt.toArray⟩) (.int .i64 tp)
      clear r0 r1 X2 Z2 p3 tz0 tz1 tz2 tz3 tz4
      go_wp2_with fail
      go_meet
      exact ⟨w2.heap.size, rfl, S3, (((hq3.setCell (Nat.le_refl _) _).setCell (Nat.le_refl _) _).setCell (Nat.le_refl _) _).setCell (Nat.le_refl _) _⟩
  case rest =>
    obtain ⟨X, rfl, hX, hbc⟩ := hcut
    obtain ⟨w4, rfl⟩ : ∃ w4 : World, w4 = wc := ⟨_, rfl⟩
    have G0 := (hbc.block w.heap.size (by omega)).trans g0
    have G1 := (hbc.block (w.heap.size + 1) hlt2).trans g1
    have hb4 : Below w.heap.size w w4 := hal2.trans (hbc.mono hz2)
    have hz4 := hbc.size
    obtain ⟨f2, f3⟩ := tokD_cells hX
    clear g0 g1 hal2 X2 Z2 r0 r1 HK HK' hbc hX
    go_upto_region 3 with fail
    have hal5 := below_new w4 (.cells #[.string ⟨tt.toArray⟩, .int .i64 0, .slice none 0 0, .int .i64 tp, .int .i64 0] 56)
    have P5 := heap_alloc_new w4 (.cells #[.string ⟨tt.toArray⟩, .int .i64 0, .slice none 0 0, .int .i64 tp, .int .i64 0] 56)
    have H0 := (hal5.block w.heap.size (by omega)).trans G0
    have H1 := (hal5.block (w.heap.size + 1) (by omega)).trans G1
    have hb5 := hb4.trans (hal5.mono hb4.size)
    have hz5 := hal5.size
    clear G0 G1 hal5 hb4 f2 f3
    generalize hpb : w4.heap.size = pb at P5 hz4 hz5 ⊢
    generalize w4.alloc _ = w5 at P5 H0 H1 hb5 hz5 ⊢
    obtain ⟨r0, r1⟩ := rd_cells H0
    have HAW := Lib.hid (HA.out w5 (HT.out.below (hb5.mono hB)) (Nat.le_trans hB hb5.size))
    go_wp2_with (go_at_call 47; refine HAW.out.mono ?_)
    rintro e w6 ⟨ao, cc, rfl, hrow, hb6⟩
    have Q5 := (hb6.block pb (Array.getElem?_eq_some_iff.1 P5).1).trans P5
    have Q1 := (hb6.block (w.heap.size + 1) (Array.getElem?_eq_some_iff.1 H1).1).trans H1
    have hne : w.heap.size + 1 ≠ pb := by omega
    have hp5 := (Array.getElem?_eq_some_iff.1 P5).1
    obtain ⟨q0, q1, q2, q3, q4, qz⟩ := par_cells Q5
    have hbw6 : Below w.heap.size w w6 := hb5.trans (hb6.mono hb5.size)
    clear r0 r1 HAW P5 H0 H1
    go_upto_region 4 with fail
    have T1 := heap_setCell_same w6 pb 1 _ _ (.int .i64 a.base) Q5
    have T2 := heap_setCell_same _ pb 2 _ _ (.slice ao a.clause.length cc) T1
    have T3 := heap_setCell_same _ pb 4 _ _ (.int .i64 a.bare) T2
    have U3 : (((w6.setCell ⟨pb, 1, none⟩ (.int .i64 a.base)).setCell ⟨pb, 2, none⟩ (.slice ao a.clause.length cc)).setCell ⟨pb, 4, none⟩ (.int .i64 a.bare)).heap[w.heap.size + 1]? = some (.cells #[.string ⟨#[]⟩, .int .i64 0, .slice none 0 0, .int .i64 0, .int .i64 0] 56 (0, 0)) := by
      rw [heap_setCell_other _ _ _ _ hne, heap_setCell_other _ _ _ _ hne, heap_setCell_other _ _ _ _ hne]
      exact Q1
    have hle : w.heap.size ≤ pb := by omega
    have hbw7 : Below w.heap.size w (((w6.setCell ⟨pb, 1, none⟩ (.int .i64 a.base)).setCell ⟨pb, 2, none⟩ (.slice ao a.clause.length cc)).setCell ⟨pb, 4, none⟩ (.int .i64 a.bare)) := ((hbw6.setCell hle _).setCell hle _).setCell hle _
    have hs : ∀ (W : World) (j : Nat) (u : Value), Alk (fun b => w5.heap.size ≤ b) W (W.setCell ⟨pb, j, none⟩ u) := fun W j u => Alk.set u fun b hb => by show b ≠ pb; omega
    have hrow7 := hrow.frame (((hs w6 1 (.int .i64 a.base)).trans (hs _ 2 (.slice ao a.clause.length cc))).trans (hs _ 4 (.int .i64 a.bare)))
    have T4 : (((w6.setCell ⟨pb, 1, none⟩ (.int .i64 a.base)).setCell ⟨pb, 2, none⟩ (.slice ao a.clause.length cc)).setCell ⟨pb, 4, none⟩ (.int .i64 a.bare)).heap[pb]? = some (.cells #[.string ⟨tt.toArray⟩, .int .i64 a.base, .slice ao a.clause.length cc, .int .i64 tp, .int .i64 a.bare] 56 (0, 0)) := T3
    clear T1 T2 T3 Q5 Q1 q0 q1 q2 q3 q4 qz hrow hbw6 hb6 hs
    generalize ((w6.setCell _ _).setCell _ _).setCell _ _ = w7 at T4 U3 hbw7 hrow7 ⊢
    obtain ⟨q0, q1, q2, q3, q4, qz⟩ := par_cells T4
    obtain ⟨s0, s1, s2, s3, s4, sz⟩ := par_cells U3
    go_wp2
    refine bodyPost_ret (v := .agg #[.string ⟨tt.toArray⟩, .int .i64 a.base, .slice ao a.clause.length cc, .int .i64 tp, .int .i64 a.bare]) (by simp [results, Tryz.results48, go_sem, s0, s1, s2, s3, s4]) rfl ⟨ao, cc, rfl, ?_, ?_⟩
    · have hs2 : ∀ (W : World) (j : Nat) (u : Value), Alk (fun b => w5.heap.size ≤ b) W (W.setCell ⟨w.heap.size + 1, j, none⟩ u) := fun W j u => Alk.set u fun b hb => by show b ≠ w.heap.size + 1; omega
      exact (hrow7.frame (((((hs2 _ _ _).trans (hs2 _ _ _)).trans (hs2 _ _ _)).trans (hs2 _ _ _)).trans (hs2 _ _ _))).imp fun b hb _ => by omega
    · exact ((((hbw7.setCell (by simp) _).setCell (by simp) _).setCell (by simp) _).setCell (by simp) _).setCell (by simp) _
end Go.Proofs.YtemkhbmkaalgdaaGreatDoor

namespace Go.Proofs.YtemkhbmkaalgdaaGreatDoor
open Go.RowKit Go
def OwnQ {α β : Type} (K : RK α β) (Q : Nat → Prop) (C e : Nat) (w : World) (v : Value) (zs : List α) : Prop :=
  ∃ l : List (α × β), l.map Prod.fst = zs ∧ w.ownsRow C e K.sz v zs.length (K.flat l) ∧ ∀ p ∈ l, K.inn (fun b => Q b ∧ some b ≠ v.ownBlock) w p.1 p.2
section
variable {α β : Type}
theorem OwnQ.nil (K : RK α β) (Q : Nat → Prop) (C e : Nat) (w : World) : OwnQ K Q C e w (.slice none 0 0) [] := ⟨[], rfl, World.ownsRow_nil _ _ _ _, fun p hp => by cases hp⟩
theorem OwnQ.below {K : RK α β} {Q : Nat → Prop} {C e : Nat} {w w' : World} {v : Value} {zs : List α} (h : OwnQ K Q C e w v zs) (hb : Below w.heap.size w w') : OwnQ K Q C e w' v zs := by
  obtain ⟨l, h1, h2, h3⟩ := h
  exact ⟨l, h1, own_below h2 hb, fun p hp => K.frame (h3 p hp) (Alk.of hb)⟩
theorem OwnQ.set {K : RK α β} {Q : Nat → Prop} {C e : Nat} {w : World} {v : Value} {zs : List α} (h : OwnQ K Q C e w v zs) {a : Addr} (ha : a.block < C) (hq : ¬ Q a.block) (u : Value) : OwnQ K Q C e (w.setCell a u) v zs := by
  obtain ⟨l, h1, h2, h3⟩ := h
  refine ⟨l, h1, own_set h2 (fun q => ?_) u, fun p hp => K.frame (h3 p hp) (Alk.set u fun b hb => fun q => hq (by rw [← q]; exact hb.1))⟩
  have := (h2.lt a.block q.symm).1
  omega
theorem OwnQ.row {K : RK α β} {Q R : Nat → Prop} {C e : Nat} {w : World} {v : Value} {zs : List α} (h : OwnQ K Q C e w v zs) (hR : ∀ b, C ≤ b → R b) (hQ : ∀ b, Q b → b < w.heap.size → R b) : RowK K R w v zs := by
  obtain ⟨l, h1, h2, h3⟩ := h
  exact ⟨l, h1, SlP.ofOwns h2 hR, fun p hp => K.imp (h3 p hp) fun b hb hl => hQ b hb.1 hl⟩
theorem OwnQ.slice {K : RK α β} {Q : Nat → Prop} {C e : Nat} {w : World} {v : Value} {zs : List α} (h : OwnQ K Q C e w v zs) : ∃ ao cap, v = .slice ao zs.length cap :=
  (h.row (R := fun _ => True) (fun _ _ => trivial) (fun _ _ _ => trivial)).slice
theorem OwnQ.snoc {K : RK α β} {Q : Nat → Prop} {C e : Nat} {w w' : World} {kv kv' : Value} {zs : List α} {a : α} {x : β} {g H : Nat} {l : List (α × β)} (h1 : l.map Prod.fst = zs) (h2 : ∀ p ∈ l, K.inn (fun b => Q b ∧ some b ≠ kv.ownBlock) w p.1 p.2) (hx : K.inn (fun b => Q b ∧ some b ≠ kv.ownBlock) w a x)
    (hown : w'.ownsRow C e K.sz kv' (zs.length + 1) (K.flat l ++ K.cells a x)) (hgrow : w.grownBy w' kv.ownBlock) (hv : kv'.ownBlock = some g) (hor : kv.ownBlock = some g ∨ g = H) (hH : w.heap.size ≤ H) : OwnQ K Q C e w' kv' (zs ++ [a]) := by
  have himp : ∀ b, (Q b ∧ some b ≠ kv.ownBlock) → b < w.heap.size → ((Q b ∧ some b ≠ kv'.ownBlock) ∧ some b ≠ kv.ownBlock) := fun b hb hlt => by
    refine ⟨⟨hb.1, fun q => ?_⟩, hb.2⟩
    rw [hv] at q
    simp only [Option.some.injEq] at q
    rcases hor with h | h
    · exact hb.2 (by rw [h, q])
    · omega
  have hall : ∀ {a : α} {x : β}, K.inn (fun b => Q b ∧ some b ≠ kv.ownBlock) w a x → K.inn (fun b => Q b ∧ some b ≠ kv'.ownBlock) w' a x := fun h =>
    K.imp (K.frame (K.imp h himp) (Alk.grown hgrow fun b hb => hb.2)) fun b hb _ => hb.1
  refine ⟨l ++ [(a, x)], by rw [List.map_append, h1]; rfl, ?_, fun p hp => ?_⟩
  · rw [K.flat_snoc, List.length_append, List.length_singleton]; exact hown
  · rcases List.mem_append.1 hp with hp | hp
    · exact hall (h2 p hp)
    · rw [List.mem_singleton] at hp
      subst hp
      exact hall hx
theorem OwnQ.round {K : RK α β} {Q : Nat → Prop} {e be : Nat} {w1 wr W2 w5 : World} {o : Obj} {kv kv5 : Value} {acc : List α} {a : α} {x : β} {l : List (α × β)} {gg : Nat} (halk : Alk (fun b => b < w1.heap.size ∧ b ≠ be) w1 wr) (hbe : be < w1.heap.size) (hQ : ¬ Q be)
    (h1 : l.map Prod.fst = acc) (hown : wr.ownsRow w1.heap.size e K.sz kv acc.length (K.flat l)) (hes : ∀ p ∈ l, K.inn (fun b => Q b ∧ some b ≠ kv.ownBlock) wr p.1 p.2) (hx : K.inn (fun b => Q b ∧ some b ≠ kv.ownBlock) W2 a x) (hb2 : Below wr.heap.size wr W2)
    (hown5 : w5.ownsRow w1.heap.size e K.sz kv5 (acc.length + 1) (K.flat l ++ K.cells a x)) (hgrow : (W2.alloc o).grownBy w5 kv.ownBlock) (hv5 : kv5.ownBlock = some gg) (hat : kv.ownBlock = some gg ∨ gg = W2.heap.size + 1) (off : Nat) (u : Value) :
    OwnQ K Q w1.heap.size e (w5.setCell ⟨be, off, none⟩ u) kv5 (acc ++ [a]) ∧ Alk (fun b => b < w1.heap.size ∧ b ≠ be) w1 (w5.setCell ⟨be, off, none⟩ u) ∧ ∀ (B : Nat) (w0 : World), B ≤ be → Below B w0 wr → Below B w0 (w5.setCell ⟨be, off, none⟩ u) := by
  have hz1 := halk.1
  have hz2 := hb2.size
  have hb3 : Below wr.heap.size wr (W2.alloc o) := hb2.alloc hz2 _
  have hlt : ∀ b, some b = kv.ownBlock → w1.heap.size ≤ b ∧ b < wr.heap.size := fun b q => ⟨(hown.lt b q.symm).1, (hown.lt b q.symm).2⟩
  have hx2 : K.inn (fun b => Q b ∧ some b ≠ kv.ownBlock) (W2.alloc o) a x := K.frame hx ⟨by simp, fun b _ hb => Lib.alloc_old _ _ _ hb⟩
  have hrow := OwnQ.snoc (K := K) (w := W2.alloc o) h1 (fun p hp => K.frame (hes p hp) (Alk.of hb3)) hx2 hown5 hgrow hv5 hat (by simp)
  refine ⟨hrow.set hbe hQ u, ?_, fun B w0 hB hb0 => ?_⟩
  · refine ((halk.trans (Alk.ofB hb3 fun b hb => by omega)).trans (Alk.grown hgrow fun b hb q => ?_)).trans (Alk.set u fun b hb => hb.2)
    have := (hlt b q).1
    omega
  · have hsz := hb0.size
    exact ((hb0.trans (hb3.mono (by omega))).grown hgrow (by simp; omega) (fun b q => by have := (hlt b q.symm).1; omega)).setCell hB _
end
end Go.Proofs.YtemkhbmkaalgdaaGreatDoor

namespace Go.Proofs.YtemkhbmkaalgdaaGreatDoor
open Go.RowKit Go.Shelf
attribute [local go_sem] Oper.semAt_some
def backF (ks : List Int) (k : Nat) : List (Int × Int) := (List.range k).map fun (j : Nat) => ((ks.length : Int) - 1 - (j : Int), ks[ks.length - 1 - j]?.getD 0)
theorem backF_succ (ks : List Int) (k : Nat) : backF ks (k + 1) = backF ks k ++ [((ks.length : Int) - 1 - (k : Int), ks[ks.length - 1 - k]?.getD 0)] := by simp [backF, List.range_succ]
theorem backF_len (ks : List Int) (k : Nat) : (backF ks k).length = k := by simp [backF]
theorem backF_snd (ks : List Int) (k : Nat) (hk : k ≤ ks.length) : (backF ks k).map Prod.snd = ks.reverse.take k := by
  apply List.ext_getElem
  · simp [backF, hk]
  · intro i h1 h2
    simp only [List.length_map, backF_len] at h1
    simp [backF, show ks.length - 1 - i < ks.length by omega]
def BackKp (n₀ Bs : Nat) (W W' : World) : Prop := Below n₀ W W' ∧ W'.cell? ⟨Bs, 0, none⟩ = W.cell? ⟨Bs, 0, none⟩
theorem BackKp.refl (n₀ Bs : Nat) (W : World) : BackKp n₀ Bs W W := ⟨Below.refl _ _, rfl⟩
theorem BackKp.trans {n₀ Bs : Nat} {A B C : World} (h : BackKp n₀ Bs A B) (k : BackKp n₀ Bs B C) : BackKp n₀ Bs A C := ⟨h.1.trans k.1, k.2.trans h.2⟩
set_option maxRecDepth 100000 in
set_option maxHeartbeats 2000000 in
theorem back1_in (F : Fence) (n : Nat) (h8 : F.fn 141) (hro : F.round = none) (hn : 1 ≤ n) (l Bs n₀ b off cap : Nat) (ks : List Int) (hreach : ks.length ≤ 1099511627776) (hb : b < n₀) (J Jx : List (Int × Int) → World → Prop)
    (hY : ∀ pre x W, J pre W → pre.length < ks.length → YieldAt F (n - 1) Tryz.prog l #[.int .i64 x.1, .int .i64 x.2] W fun e W' =>
      (e = .returned (.bool true) ∧ J (pre ++ [x]) W' ∧ BackKp n₀ Bs W W') ∨ (e = .returned (.bool false) ∧ Jx (pre ++ [x]) W'))
    (W : World) (hBs : W.cell? ⟨Bs, 0, none⟩ = some (.slice (some ⟨b, off, none⟩) ks.length cap)) (hc : ∀ j, j < ks.length → W.cell? ⟨b, off + j, none⟩ = some (.int .i64 (ks[j]?.getD 0))) (h0 : J [] W) :
    CallsIn F n Tryz.prog 141 #[.func (.yield l) #[] #[], .pointer (some ⟨Bs, 0, none⟩)] W fun e W' => (∃ v, e = .returned v) ∧
      ((∃ ys, ys = backF ks ks.length ∧ J ys W') ∨ (∃ pre, (∃ k, k ≤ ks.length ∧ pre = backF ks k) ∧ Jx pre W')) := by
  refine callsIn_of_wp Tryz.func141 rfl h8 ?_ hro
  simp only [Tryz.ntmps141, List.size_toArray, List.length_cons, List.length_nil, Nat.reduceAdd, Nat.reduceSub, Array.replicate_succ, Array.replicate_zero, List.push_toArray, List.append_toArray, List.nil_append, List.cons_append]
  gi_wp2
  gi_loopw [3] (fun i wr => ∃ k : Nat, k ≤ ks.length ∧ i = .int .i64 ((ks.length : Int) - 1 - (k : Int)) ∧ J (backF ks k) wr ∧ BackKp n₀ Bs W wr)
    (fun i _ => (intOf i + 1).toNat)
  case atStart => exact ⟨0, Nat.zero_le _, by simp, h0, BackKp.refl _ _ _⟩
  case round =>
    obtain ⟨k, hk, rfl, hJs, hnx⟩ := hrel
    have hBs' := hnx.2.trans hBs
    by_cases hlt : k < ks.length
    · obtain ⟨m, hm⟩ : ∃ m : Nat, ks.length = m + k + 1 := ⟨ks.length - 1 - k, by omega⟩
      have e1 : (ks.length : Int) - 1 - (k : Int) = (m : Int) := by omega
      have e2 : ks.length - 1 - k = m := by omega
      have hsucc := backF_succ ks k
      rw [e1, e2] at hsucc
      rw [e1]
      have hcx := (hnx.1.cell (p := ⟨b, off + m, none⟩) hb).trans (hc m (by omega))
      obtain ⟨fn, tmps, assign, body, hy, hR⟩ := hY _ ((m : Int), ks[m]?.getD 0) wr hJs (by rw [backF_len]; exact hlt)
      dsimp only at hy
      have hmI : (m : Int) < (ks.length : Int) := by omega
      have hm0 : (0 : Int) ≤ (m : Int) := by omega
      have HS := Lib.hid hsucc
      have HM := Lib.hid hm
      clear hsucc e1 e2 hm hc
      gi_wp2
      refine hR.mono ?_
      rintro e W3 (⟨rfl, hJ3, hk3⟩ | ⟨rfl, hJx3⟩)
      · gi_wp2
        go_roundw
        case rel => exact ⟨k + 1, by omega, congrArg (Value.int .i64) (by have := HM.out; omega), by rw [HS.out]; exact hJ3, hnx.trans hk3⟩
        case measure => simp only [intOf]; omega
      · gi_wp2
        refine bodyPost_ret (results_none rfl _ _ _) rfl ?_
        exact ⟨⟨_, rfl⟩, .inr ⟨_, ⟨k + 1, by omega, HS.out.symm⟩, hJx3⟩⟩
    · obtain rfl : k = ks.length := by omega
      have e1 : (ks.length : Int) - 1 - (ks.length : Int) = -1 := by omega
      rw [e1]
      clear e1 hlt
      gi_wp2
      go_end0
      exact ⟨⟨_, rfl⟩, .inl ⟨_, rfl, hJs⟩⟩
set_option maxHeartbeats 1000000 in
set_option maxRecDepth 100000 in
theorem back1_nil_in (F : Fence) (n : Nat) (h8 : F.fn 141) (hro : F.round = none) (l Bs : Nat) (ao : Option Addr) (cap : Nat) (J : List (Int × Int) → World → Prop) (W : World) (hBs : W.cell? ⟨Bs, 0, none⟩ = some (.slice ao 0 cap)) (h0 : J [] W) :
    CallsIn F n Tryz.prog 141 #[.func (.yield l) #[] #[], .pointer (some ⟨Bs, 0, none⟩)] W fun e W' => (∃ v, e = .returned v) ∧ J [] W' := by
  refine callsIn_of_wp Tryz.func141 rfl h8 ?_ hro
  simp only [Tryz.ntmps141, List.size_toArray, List.length_cons, List.length_nil, Nat.reduceAdd, Nat.reduceSub, Array.replicate_succ, Array.replicate_zero, List.push_toArray, List.append_toArray, List.nil_append, List.cons_append]
  gi_wp2
  gi_loopw [3] (fun i wr => i = .int .i64 (-1) ∧ J [] wr) (fun _ _ => 0)
  case atStart => exact ⟨rfl, h0⟩
  case round =>
    obtain ⟨rfl, hJs⟩ := hrel
    gi_wp2
    go_end0
    exact ⟨⟨_, rfl⟩, hJs⟩
set_option maxHeartbeats 1000000 in
theorem back_in (F : Fence) (n : Nat) (h6 : F.fn 126) (hro : F.round = none) (a : Option Addr) (len cap : Nat) (w : World) :
    CallsIn F n Tryz.prog 126 #[.slice a len cap] w fun e w' => e = .returned (.func (.func 141) #[] #[.pointer (some ⟨w.heap.size, 0, none⟩)]) ∧ w' = w.alloc (.cells #[.slice a len cap] 71) := by
  refine callsIn_of_wp Tryz.func126 rfl h6 ?_ hro
  simp only [Tryz.ntmps126, List.size_toArray, List.length_cons, List.length_nil, Nat.reduceAdd, Nat.reduceSub, Array.replicate_succ, Array.replicate_zero, List.push_toArray, List.append_toArray, List.nil_append, List.cons_append]
  gi_wp2
  go_ret
  exact ⟨rfl, rfl⟩
theorem back_stops (F : Fence) (n : Nat) (h8 : F.fn 141) (hro : F.round = none) (hn : 1 ≤ n) (Bs n₀ : Nat) (sv : Value) (ks : List Int) (hreach : ks.length ≤ 1099511627776) (w : World) (hBs : Bs < w.heap.size) (hn₀ : n₀ ≤ w.heap.size)
    (hc : w.cell? ⟨Bs, 0, none⟩ = some sv) (hI : Ints n₀ w sv ks) :
    SeqStopsK F n Tryz.prog 141 #[.pointer (some ⟨Bs, 0, none⟩)] (fun x : Int × Int => #[Value.int .i64 x.1, Value.int .i64 x.2]) (BackKp n₀ Bs) (fun ys => ys = backF ks ks.length)
      (fun pre => ∃ k, k ≤ ks.length ∧ pre = backF ks k) ks.length w := fun l J Jx W hW _ _ hY h0 => by
  have hc' := (hW.cell (p := ⟨Bs, 0, none⟩) hBs).trans hc
  obtain ⟨ao, cap, rfl, hcap, hf⟩ := (hI.below (hW.mono hn₀)).form
  by_cases h : 0 < ks.length
  · obtain ⟨b, off, rfl, hb, hcs⟩ := hf h
    exact back1_in F n h8 hro hn l Bs n₀ b off cap ks hreach hb J Jx hY W hc' (fun j hj => by rw [hcs j hj]; simp [hj]) h0
  · obtain rfl : ks = [] := List.length_eq_zero_iff.1 (by omega)
    exact (back1_nil_in F n h8 hro l Bs ao cap J W hc' h0).mono fun e W' ⟨he, hj⟩ => ⟨he, .inl ⟨_, rfl, hj⟩⟩
end Go.Proofs.YtemkhbmkaalgdaaGreatDoor
