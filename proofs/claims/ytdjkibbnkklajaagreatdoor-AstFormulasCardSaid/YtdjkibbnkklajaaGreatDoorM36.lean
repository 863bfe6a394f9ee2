/- The walks of the code that the claim reaches, and the plain laws: FExprW7, FExprW8. No condition of ours. -/
import Derived.Test.YtdjkibbnkklajaaGreatDoorM32
namespace Go.Proofs.YtdjkibbnkklajaaGreatDoor
open Go.RowKit Go

set_option maxHeartbeats 2000000 in
set_option maxRecDepth 100000 in
/-- A let. -/
theorem fexpr_let (pes : List PE) (B : Nat) (tv nv : Value) (toks : List Tok) (nodes : List Nd) (i : Nat) (ks : List Int) (w : World) (h : TreeAt B w (.agg #[tv, nv]) toks nodes) (hB : B ≤ w.heap.size) (hn : nodes[i]? = some ⟨7, -1, ks⟩)
    (k0 : Nat) (hk0 : ks[0]? = some (k0 : Int)) (t : Tok) (hL : ∀ (W : World), TreeAt B W (.agg #[tv, nv]) toks nodes → B ≤ W.heap.size → Calls Tryz.prog 20 #[.agg #[tv, nv], .int .i64 k0] W fun e w' => e = .returned (tokVal t) ∧ Below W.heap.size W w') (k1 : Nat) (hq1 : ks[1]? = some (k1 : Int)) (tk1 : Tok) (hL1 : ∀ (W : World), TreeAt B W (.agg #[tv, nv]) toks nodes → B ≤ W.heap.size → Calls Tryz.prog 20 #[.agg #[tv, nv], .int .i64 k1] W fun e w' => e = .returned (tokVal tk1) ∧ Below W.heap.size W w')
    (hM : ∀ (op at_ : Nat) (W : World), TreeAt B W (.agg #[tv, nv]) toks nodes → B ≤ W.heap.size → Calls Tryz.prog 21 #[.agg #[tv, nv], .int .i64 i, .int .i64 op, .int .i64 at_] W (EPost XR (.mk op [] [] 0 [] false pes at_) W)) :
    Calls Tryz.prog 7 #[.agg #[tv, nv], .int .i64 i] w (EPost XR (.mk 22 tk1.text [] 0 [] false pes t.place) w) := by
  have HM := Lib.hid hM
  obtain ⟨hp1, hp2⟩ := List.getElem?_eq_some_iff.1 hq1
  clear hM hq1
  have HP2 := Lib.hid hp2
  clear hp2
  have hL1' : ∀ (W : World), TreeAt B W (.agg #[tv, nv]) toks nodes → B ≤ W.heap.size → Calls Tryz.prog 20 #[.agg #[tv, nv], .int .i64 k1] W fun e w' => e = .returned (.agg #[.int .i64 tk1.kind, .string ⟨tk1.lead.toArray⟩, .string ⟨tk1.text.toArray⟩, .int .i64 tk1.place]) ∧ Below W.heap.size W w' := hL1
  have HL1 := Lib.hid hL1'
  clear hL1 hL1'
  have hfl1 := fun W => Tryz.rtokField2 (.int .i64 tk1.kind) (.string ⟨tk1.lead.toArray⟩) (.string ⟨tk1.text.toArray⟩) (.int .i64 tk1.place) W
  obtain ⟨hi, hni⟩ := List.getElem?_eq_some_iff.1 hn
  obtain ⟨hk1, hk2⟩ := List.getElem?_eq_some_iff.1 hk0
  have HT := Lib.hid h
  obtain ⟨a1, c1, _, _, e⟩ := h.slices
  obtain ⟨b, off, cap, kv, rfl, hb, x0, x1, x2, hkv⟩ := h.node hi
  obtain ⟨rfl, -⟩ : tv = .slice a1 toks.length c1 ∧ _ := by simpa using e
  rw [hni] at x0 x1 hkv
  simp only at x0 x1 hkv
  obtain ⟨ak, ck, rfl, _, hkf⟩ := hkv.form
  obtain ⟨bk, ok, rfl, hbk, hkc⟩ := hkf (by omega)
  have hz := hkc 0 hk1
  rw [hk2] at hz
  simp only [Nat.add_zero] at hz
  have HKC := Lib.hid hkc
  have hL' : ∀ (W : World), TreeAt B W (.agg #[.slice a1 toks.length c1, .slice (some ⟨b, off, none⟩) nodes.length cap]) toks nodes → B ≤ W.heap.size → Calls Tryz.prog 20 #[.agg #[.slice a1 toks.length c1, .slice (some ⟨b, off, none⟩) nodes.length cap], .int .i64 k0] W fun e w' => e = .returned (.agg #[.int .i64 t.kind, .string ⟨t.lead.toArray⟩, .string ⟨t.text.toArray⟩, .int .i64 t.place]) ∧ Below W.heap.size W w' := hL
  have HK := Lib.hid hL'
  clear e hkv hkf hkc hn hni hL hL' hk0
  have hal2 := ((Below.refl w.heap.size w).alloc (Nat.le_refl _) (.cells #[.slice a1 toks.length c1, .slice (some ⟨b, off, none⟩) nodes.length cap] 47)).alloc (by simp) (.cells #[.int .i64 0, .string ⟨#[]⟩, .string ⟨#[]⟩, .string ⟨#[]⟩, .bool false, .slice none 0 0, .int .i64 0] 42)
  have hal3 := hal2.alloc (by simp <;> omega) (.cells #[.int .i64 7, .int .i64 (-1), .slice (some ⟨bk, ok, none⟩) ks.length ck] 65)
  have X0 := cell_later hal2 x0
  have X1 := cell_later hal2 x1
  have X2 := cell_later hal2 x2
  have Z3 := cell_later hal3 hz
  have g0 := heap_alloc_new w (.cells #[.slice a1 toks.length c1, .slice (some ⟨b, off, none⟩) nodes.length cap] 47)
  have g1 := heap_alloc_new (w.alloc (.cells #[.slice a1 toks.length c1, .slice (some ⟨b, off, none⟩) nodes.length cap] 47)) (.cells #[.int .i64 0, .string ⟨#[]⟩, .string ⟨#[]⟩, .string ⟨#[]⟩, .bool false, .slice none 0 0, .int .i64 0] 42)
  have g2 := heap_alloc_new ((w.alloc (.cells #[.slice a1 toks.length c1, .slice (some ⟨b, off, none⟩) nodes.length cap] 47)).alloc (.cells #[.int .i64 0, .string ⟨#[]⟩, .string ⟨#[]⟩, .string ⟨#[]⟩, .bool false, .slice none 0 0, .int .i64 0] 42)) (.cells #[.int .i64 7, .int .i64 (-1), .slice (some ⟨bk, ok, none⟩) ks.length ck] 65)
  rw [World.size_alloc] at g1
  rw [World.size_alloc, World.size_alloc] at g2
  have G0 := (Lib.alloc_old ((w.alloc (.cells #[.slice a1 toks.length c1, .slice (some ⟨b, off, none⟩) nodes.length cap] 47)).alloc (.cells #[.int .i64 0, .string ⟨#[]⟩, .string ⟨#[]⟩, .string ⟨#[]⟩, .bool false, .slice none 0 0, .int .i64 0] 42)) (.cells #[.int .i64 7, .int .i64 (-1), .slice (some ⟨bk, ok, none⟩) ks.length ck] 65) w.heap.size (by simp <;> omega)).trans ((Lib.alloc_old (w.alloc (.cells #[.slice a1 toks.length c1, .slice (some ⟨b, off, none⟩) nodes.length cap] 47)) (.cells #[.int .i64 0, .string ⟨#[]⟩, .string ⟨#[]⟩, .string ⟨#[]⟩, .bool false, .slice none 0 0, .int .i64 0] 42) w.heap.size (by simp)).trans g0)
  have G1 := (Lib.alloc_old ((w.alloc (.cells #[.slice a1 toks.length c1, .slice (some ⟨b, off, none⟩) nodes.length cap] 47)).alloc (.cells #[.int .i64 0, .string ⟨#[]⟩, .string ⟨#[]⟩, .string ⟨#[]⟩, .bool false, .slice none 0 0, .int .i64 0] 42)) (.cells #[.int .i64 7, .int .i64 (-1), .slice (some ⟨bk, ok, none⟩) ks.length ck] 65) (w.heap.size + 1) (by simp)).trans g1
  have hiI : (i : Int) < (nodes.length : Int) := by omega
  have hkl : (0 : Int) < (ks.length : Int) := by omega
  have hklN : 0 < ks.length := by omega
  have hCT := HT.out
  have hy0 : ((((w.alloc (.cells #[.slice a1 toks.length c1, .slice (some ⟨b, off, none⟩) nodes.length cap] 47)).alloc (.cells #[.int .i64 0, .string ⟨#[]⟩, .string ⟨#[]⟩, .string ⟨#[]⟩, .bool false, .slice none 0 0, .int .i64 0] 42)).alloc (.cells #[.int .i64 7, .int .i64 (-1), .slice (some ⟨bk, ok, none⟩) ks.length ck] 65))).cell? ⟨w.heap.size, 0, none⟩ = some (.slice a1 toks.length c1) := by rw [Lib.cell_of_heap G0]; rfl
  have hy1 : ((((w.alloc (.cells #[.slice a1 toks.length c1, .slice (some ⟨b, off, none⟩) nodes.length cap] 47)).alloc (.cells #[.int .i64 0, .string ⟨#[]⟩, .string ⟨#[]⟩, .string ⟨#[]⟩, .bool false, .slice none 0 0, .int .i64 0] 42)).alloc (.cells #[.int .i64 7, .int .i64 (-1), .slice (some ⟨bk, ok, none⟩) ks.length ck] 65))).cell? ⟨w.heap.size, 1, none⟩ = some (.slice (some ⟨b, off, none⟩) nodes.length cap) := by rw [Lib.cell_of_heap G0]; rfl
  have hq1 : ((w.alloc (.cells #[.slice a1 toks.length c1, .slice (some ⟨b, off, none⟩) nodes.length cap] 47)).alloc (.cells #[.int .i64 0, .string ⟨#[]⟩, .string ⟨#[]⟩, .string ⟨#[]⟩, .bool false, .slice none 0 0, .int .i64 0] 42)).cell? ⟨w.heap.size, 1, none⟩ = some (.slice (some ⟨b, off, none⟩) nodes.length cap) := by rw [Lib.cell_of_heap ((Lib.alloc_old (w.alloc (.cells #[.slice a1 toks.length c1, .slice (some ⟨b, off, none⟩) nodes.length cap] 47)) (.cells #[.int .i64 0, .string ⟨#[]⟩, .string ⟨#[]⟩, .string ⟨#[]⟩, .bool false, .slice none 0 0, .int .i64 0] 42) w.heap.size (by simp)).trans g0)]; rfl
  clear h x0 x1 x2 g0 g1 hal2
  go_enter Tryz.func7, Tryz.ntmps7
  go_upto_region 2 with fail
  generalize ((w.alloc _).alloc _).alloc _ = w2 at G0 G1 g2 hal3 Z3 hy0 hy1 ⊢
  have n2 : w2.cell? ⟨w.heap.size + 1 + 1, 2, none⟩ = some (.slice (some ⟨bk, ok, none⟩) ks.length ck) := by rw [Lib.cell_of_heap g2]; rfl
  have HK' := Lib.hid (fun W (hb : Below w2.heap.size w2 W) => (HK.out W (hCT.below ((hal3.trans (hb.mono hal3.size)).mono hB)) (by have := hal3.size; have := hb.size; omega)).mono (R' := fun e w' => e = .returned (.agg #[.int .i64 t.kind, .string ⟨t.lead.toArray⟩, .string ⟨t.text.toArray⟩, .int .i64 t.place]) ∧ Below w2.heap.size w2 w' ∧ Below W.heap.size W w') fun e w' h => ⟨h.1, hb.trans (h.2.mono hb.size), h.2⟩)
  have hlt2 : w.heap.size + 1 + 1 < w2.heap.size := (Array.getElem?_eq_some_iff.1 g2).1
  have HG := Lib.hid (And.intro G0 (And.intro G1 g2))
  clear G0 G1 g2 X0 X1 X2 hq1 hz hCT
  go_cut [6] (fun p wc => ∃ X : Nat, p = .pointer (some ⟨X, 0, none⟩) ∧ FHead w (.slice a1 toks.length c1) (.slice (some ⟨b, off, none⟩) nodes.length cap) (.int .i64 7) (.slice (some ⟨bk, ok, none⟩) ks.length ck) t X wc)
  case first =>
    go_region_held3 (fun w' => w'.cell? ⟨w.heap.size, 0, none⟩ = some (.slice a1 toks.length c1) ∧ w'.cell? ⟨w.heap.size, 1, none⟩ = some (.slice (some ⟨b, off, none⟩) nodes.length cap) ∧ w'.cell? ⟨w.heap.size + 1 + 1, 2, none⟩ = some (.slice (some ⟨bk, ok, none⟩) ks.length ck) ∧ w'.cell? ⟨bk, ok, none⟩ = some (.int .i64 k0))
      (first | go_keep | exact p3 | exact ⟨(set4_cell w3 w2.heap.size _ _ _ _ (by omega)).trans p3.1, (set4_cell w3 w2.heap.size _ _ _ _ (by omega)).trans p3.2.1, (set4_cell w3 w2.heap.size _ _ _ _ (by omega)).trans p3.2.2.1, (set4_cell w3 w2.heap.size _ _ _ _ (by omega)).trans p3.2.2.2⟩)
      (first | (go_at_call 20; refine (HK'.out _ ?_).mono ?_; (first | exact (Below.refl _ _).drew | exact ((Below.refl _ _).alloc (Nat.le_refl _) _).drew); rintro e w3 ⟨rfl, hq3, hb3⟩; have p3 := And.intro (cell_later hq3 hy0) (And.intro (cell_later hq3 hy1) (And.intro (cell_later hq3 n2) (cell_later hq3 Z3))); try (have hTz := (hb3.block w2.heap.size (by simp)).trans (heap_alloc_new w2 (.cells #[.int .i64 0, .string ⟨#[]⟩, .string ⟨#[]⟩, .int .i64 0] 67)); obtain ⟨tz0, tz1, tz2, tz3, tz4⟩ := ftok0_cells hTz)))
    · have hb3' : Below w.heap.size w w3 := hal3.trans (hq3.mono hal3.size)
      have q0 := (hq3.block w.heap.size (by omega)).trans HG.out.1
      have q1 := (hq3.block (w.heap.size + 1) (by omega)).trans HG.out.2.1
      have q2 := (hq3.block (w.heap.size + 1 + 1) (by omega)).trans HG.out.2.2
      have hz3 := hq3.size
      clear hy0 hy1 n2 Z3 p3
      go_wp2_with fail
      go_meet
      exact ⟨w3.heap.size, rfl, heap_alloc_new w3 (.cells (ftokC t) 67), (Lib.alloc_old w3 _ w.heap.size (by omega)).trans q0, (Lib.alloc_old w3 _ (w.heap.size + 1) (by omega)).trans q1, (Lib.alloc_old w3 _ (w.heap.size + 1 + 1) (by omega)).trans q2, hb3'.alloc hb3'.size _, by omega⟩
    · have hb3' : Below w.heap.size w w3 := hal3.trans (hq3.mono hal3.size)
      have q0 := (hq3.block w.heap.size (by omega)).trans HG.out.1
      have q1 := (hq3.block (w.heap.size + 1) (by omega)).trans HG.out.2.1
      have q2 := (hq3.block (w.heap.size + 1 + 1) (by omega)).trans HG.out.2.2
      obtain ⟨S3, So, _⟩ := store4 hTz (.int .i64 t.kind) (.string ⟨t.lead.toArray⟩) (.string ⟨t.text.toArray⟩) (.int .i64 t.place)
      have hle : w.heap.size ≤ w2.heap.size := by omega
      clear hy0 hy1 n2 Z3 p3 tz0 tz1 tz2 tz3 tz4
      go_wp2_with fail
      go_meet
      exact ⟨w2.heap.size, rfl, S3, (So w.heap.size (by omega)).trans q0, (So (w.heap.size + 1) (by omega)).trans q1, (So (w.heap.size + 1 + 1) (by omega)).trans q2, (((hb3'.setCell hle _).setCell hle _).setCell hle _).setCell hle _, hlt2⟩
  case rest =>
    obtain ⟨X, rfl, hH⟩ := hcut
    obtain ⟨w7, rfl⟩ : ∃ w7 : World, w7 = wc := ⟨_, rfl⟩
    obtain ⟨r0, r1, n0, n2, f2, f3⟩ := hH.cells
    obtain ⟨hl7, hX7⟩ := hH.lt
    have hal7 := hH.2.2.2.2.1
    have hs7 := hal7.size
    have S1 := hH.2.2.1
    have HH := Lib.hid hH
    have hCT := Lib.hid (HT.out.below (hal7.mono hB))
    clear HK HK' HG hal3 hy0 hy1 Z3 hH hlt2
    have HM' := Lib.hid ((HM.out 22 t.place w7 hCT.out (by omega)).mono fun _ _ h => h.rm)
    go_upto_region 6 with (go_at_call 21; refine HM'.out.mono ?_; rintro e w8 ⟨ae, ce, rfl, hxe, hb8⟩)
    have hz8 := hb8.size
    have N9 := heap_alloc_new w8 (.cells (gCells 22 t.place [] [] (.slice ae pes.length ce)) 42)
    have hb9 := hb8.alloc hz8 (.cells (gCells 22 t.place [] [] (.slice ae pes.length ce)) 42)
    have hH9 := HH.out.below hb9
    have hx9 : EAt XR (fun b => w7.heap.size ≤ b ∧ b < w8.heap.size) (w8.alloc (.cells (gCells 22 t.place [] [] (.slice ae pes.length ce)) 42)) .nilIface (.slice ae pes.length ce) (.mk 22 [] [] 0 [] false pes t.place) := (hxe.imp (fun b hb hlt => (⟨hb, hlt⟩ : w7.heap.size ≤ b ∧ b < w8.heap.size))).frame ⟨by simp, fun b _ hb => Lib.alloc_old _ _ _ hb⟩
    have hs9 : (w8.alloc (.cells (gCells 22 t.place [] [] (.slice ae pes.length ce)) 42)).heap.size = w8.heap.size + 1 := by simp
    clear r0 r1 n0 n2 f2 f3 S1 hxe hb8 HM'
    change Code.wp _ _ _ _ (w8.alloc (.cells (gCells 22 t.place [] [] (.slice ae pes.length ce)) 42))
    generalize w8.alloc _ = w9 at N9 hb9 hH9 hx9 hs9 ⊢
    have hk1c := HKC.out 1 hp1
    rw [HP2.out] at hk1c
    have k1c := cell_later hH9.2.2.2.2.1 hk1c
    have hp1I : (1 : Int) < (ks.length : Int) := by omega
    obtain ⟨r0, r1, -, n2, -, -⟩ := hH9.cells
    have HX' := Lib.hid (HL1.out w9.drew (hCT.out.below ((hb9.mono (by omega)).drew)) (show B ≤ w9.heap.size by omega))
    have HH9 := Lib.hid hH9
    have HN9 := Lib.hid N9
    clear hH9 N9 hk1c
    go_still_tail 5, (by kernel_rfl)
    change wpList _ _ _ _ _ w9.drew
    go_upto_region 7 with (go_at_call 20; refine HX'.out.mono ?_; rintro e w10 ⟨rfl, hb10⟩; have hb10' : Below w9.heap.size w9 w10 := (Below.refl w9.heap.size w9).drew.trans hb10; have E9 := (hb10'.block w8.heap.size (by omega)).trans HN9.out; obtain ⟨-, e1, -, -, -, -, -, ez⟩ := gCells_all E9)
    have hH11 := (HH9.out.below hb10').set (a := ⟨w8.heap.size, 1, none⟩) (by show w8.heap.size ≠ X; omega) (by show _ < w8.heap.size; omega) (.string ⟨tk1.text.toArray⟩)
    have E11 : (w10.setCell ⟨w8.heap.size, 1, none⟩ (.string ⟨tk1.text.toArray⟩)).heap[w8.heap.size]? = some (.cells (gCells 22 t.place tk1.text [] (.slice ae pes.length ce)) 42 (0, 0)) := heap_setCell_same w10 w8.heap.size 1 _ _ _ E9
    have hx11 := (hx9.frame (Alk.of hb10')).frame (Alk.set (a := ⟨w8.heap.size, 1, none⟩) (.string ⟨tk1.text.toArray⟩) fun b hb => by show b ≠ w8.heap.size; omega)
    have hs11 : w9.heap.size ≤ (w10.setCell ⟨w8.heap.size, 1, none⟩ (.string ⟨tk1.text.toArray⟩)).heap.size := by rw [World.size_setCell]; exact (hb10').size
    generalize w10.setCell _ _ = w11 at hH11 E11 hx11 hs11 ⊢
    obtain ⟨b0, b1, b2, b3, b4, b5, b6, bz⟩ := gCells_all E11
    obtain ⟨d0, d1, d2, d3, d4, d5, d6⟩ := fCells_all hH11.2.2.1
    have dz := fCells_free hH11.2.2.1
    have hal11 := hH11.2.2.2.2.1
    have HX11 := Lib.hid hx11
    clear E11 hH11 hx11
    go_wp2
    have hE : EAt XR (fun b => w.heap.size ≤ b) (set7 w11 (w.heap.size + 1) (.int .i64 22) (.string ⟨tk1.text.toArray⟩) (.string ⟨[].toArray⟩) (.string ⟨#[]⟩) (.bool false) (.slice ae pes.length ce) (.int .i64 t.place)) .nilIface (.slice ae pes.length ce) (.mk 22 tk1.text [] 0 [] false pes t.place) :=
      ((HX11.out.frame (set7_alk _ _ (w.heap.size + 1) _ _ _ _ _ _ _ fun k hk => by omega)).imp fun b hb _ => by omega).rename
    refine bodyPost_ret (v := .agg #[.int .i64 22, .string ⟨tk1.text.toArray⟩, .string ⟨[].toArray⟩, .string ⟨#[]⟩, .bool false, .slice ae pes.length ce, .int .i64 t.place]) (by simp [results, Tryz.results7, go_sem, d0, d1, d2, d3, d4, d5, d6]) rfl ?_
    exact ⟨_, _, rfl, hE, set7_below hal11 (by omega) _ _ _ _ _ _ _⟩

end Go.Proofs.YtdjkibbnkklajaaGreatDoor

namespace Go.Proofs.YtdjkibbnkklajaaGreatDoor
open Go.RowKit Go

set_option maxHeartbeats 2000000 in
set_option maxRecDepth 100000 in
/-- A call. -/
theorem fexpr_call0 (pes : List PE) (B : Nat) (tv nv : Value) (toks : List Tok) (nodes : List Nd) (i : Nat) (ks : List Int) (w : World) (h : TreeAt B w (.agg #[tv, nv]) toks nodes) (hB : B ≤ w.heap.size) (hn : nodes[i]? = some ⟨13, -1, ks⟩)
    (k0 : Nat) (hk0 : ks[0]? = some (k0 : Int)) (t : Tok) (hL : ∀ (W : World), TreeAt B W (.agg #[tv, nv]) toks nodes → B ≤ W.heap.size → Calls Tryz.prog 20 #[.agg #[tv, nv], .int .i64 k0] W fun e w' => e = .returned (tokVal t) ∧ Below W.heap.size W w') (k1 : Nat) (hq1 : ks[1]? = some (k1 : Int)) (kd1 : Nat) (ld1 : List UInt8) (pl1 : Nat) (hL1 : ∀ (W : World), TreeAt B W (.agg #[tv, nv]) toks nodes → B ≤ W.heap.size → Calls Tryz.prog 20 #[.agg #[tv, nv], .int .i64 k1] W fun e w' => e = .returned (tokVal ⟨kd1, ld1, [40], pl1⟩) ∧ Below W.heap.size W w')
    (hM : ∀ (op at_ : Nat) (W : World), TreeAt B W (.agg #[tv, nv]) toks nodes → B ≤ W.heap.size → Calls Tryz.prog 21 #[.agg #[tv, nv], .int .i64 i, .int .i64 op, .int .i64 at_] W (EPost XR (.mk op [] [] 0 [] false pes at_) W)) :
    Calls Tryz.prog 7 #[.agg #[tv, nv], .int .i64 i] w (EPost XR (.mk 24 t.text [] 0 [] false pes t.place) w) := by
  have HM := Lib.hid hM
  clear hM
  have hL1' : ∀ (W : World), TreeAt B W (.agg #[tv, nv]) toks nodes → B ≤ W.heap.size → Calls Tryz.prog 20 #[.agg #[tv, nv], .int .i64 k1] W fun e w' => e = .returned (.agg #[.int .i64 kd1, .string ⟨ld1.toArray⟩, .string ⟨#[40]⟩, .int .i64 pl1]) ∧ Below W.heap.size W w' := hL1
  have HL1 := Lib.hid hL1'
  clear hL1 hL1'
  have hfl1 := fun W => Tryz.rtokField2 (.int .i64 kd1) (.string ⟨ld1.toArray⟩) (.string ⟨#[40]⟩) (.int .i64 pl1) W
  obtain ⟨hp1, hp1'⟩ := List.getElem?_eq_some_iff.1 hq1
  have HP1 := Lib.hid hp1'
  clear hq1 hp1'
  obtain ⟨hi, hni⟩ := List.getElem?_eq_some_iff.1 hn
  obtain ⟨hk1, hk2⟩ := List.getElem?_eq_some_iff.1 hk0
  have HT := Lib.hid h
  obtain ⟨a1, c1, _, _, e⟩ := h.slices
  obtain ⟨b, off, cap, kv, rfl, hb, x0, x1, x2, hkv⟩ := h.node hi
  obtain ⟨rfl, -⟩ : tv = .slice a1 toks.length c1 ∧ _ := by simpa using e
  rw [hni] at x0 x1 hkv
  simp only at x0 x1 hkv
  obtain ⟨ak, ck, rfl, _, hkf⟩ := hkv.form
  obtain ⟨bk, ok, rfl, hbk, hkc⟩ := hkf (by omega)
  have hz := hkc 0 hk1
  rw [hk2] at hz
  simp only [Nat.add_zero] at hz
  have HKC := Lib.hid hkc
  have hL' : ∀ (W : World), TreeAt B W (.agg #[.slice a1 toks.length c1, .slice (some ⟨b, off, none⟩) nodes.length cap]) toks nodes → B ≤ W.heap.size → Calls Tryz.prog 20 #[.agg #[.slice a1 toks.length c1, .slice (some ⟨b, off, none⟩) nodes.length cap], .int .i64 k0] W fun e w' => e = .returned (.agg #[.int .i64 t.kind, .string ⟨t.lead.toArray⟩, .string ⟨t.text.toArray⟩, .int .i64 t.place]) ∧ Below W.heap.size W w' := hL
  have HK := Lib.hid hL'
  clear e hkv hkf hkc hn hni hL hL' hk0
  have hal2 := ((Below.refl w.heap.size w).alloc (Nat.le_refl _) (.cells #[.slice a1 toks.length c1, .slice (some ⟨b, off, none⟩) nodes.length cap] 47)).alloc (by simp) (.cells #[.int .i64 0, .string ⟨#[]⟩, .string ⟨#[]⟩, .string ⟨#[]⟩, .bool false, .slice none 0 0, .int .i64 0] 42)
  have hal3 := hal2.alloc (by simp <;> omega) (.cells #[.int .i64 13, .int .i64 (-1), .slice (some ⟨bk, ok, none⟩) ks.length ck] 65)
  have X0 := cell_later hal2 x0
  have X1 := cell_later hal2 x1
  have X2 := cell_later hal2 x2
  have Z3 := cell_later hal3 hz
  have g0 := heap_alloc_new w (.cells #[.slice a1 toks.length c1, .slice (some ⟨b, off, none⟩) nodes.length cap] 47)
  have g1 := heap_alloc_new (w.alloc (.cells #[.slice a1 toks.length c1, .slice (some ⟨b, off, none⟩) nodes.length cap] 47)) (.cells #[.int .i64 0, .string ⟨#[]⟩, .string ⟨#[]⟩, .string ⟨#[]⟩, .bool false, .slice none 0 0, .int .i64 0] 42)
  have g2 := heap_alloc_new ((w.alloc (.cells #[.slice a1 toks.length c1, .slice (some ⟨b, off, none⟩) nodes.length cap] 47)).alloc (.cells #[.int .i64 0, .string ⟨#[]⟩, .string ⟨#[]⟩, .string ⟨#[]⟩, .bool false, .slice none 0 0, .int .i64 0] 42)) (.cells #[.int .i64 13, .int .i64 (-1), .slice (some ⟨bk, ok, none⟩) ks.length ck] 65)
  rw [World.size_alloc] at g1
  rw [World.size_alloc, World.size_alloc] at g2
  have G0 := (Lib.alloc_old ((w.alloc (.cells #[.slice a1 toks.length c1, .slice (some ⟨b, off, none⟩) nodes.length cap] 47)).alloc (.cells #[.int .i64 0, .string ⟨#[]⟩, .string ⟨#[]⟩, .string ⟨#[]⟩, .bool false, .slice none 0 0, .int .i64 0] 42)) (.cells #[.int .i64 13, .int .i64 (-1), .slice (some ⟨bk, ok, none⟩) ks.length ck] 65) w.heap.size (by simp <;> omega)).trans ((Lib.alloc_old (w.alloc (.cells #[.slice a1 toks.length c1, .slice (some ⟨b, off, none⟩) nodes.length cap] 47)) (.cells #[.int .i64 0, .string ⟨#[]⟩, .string ⟨#[]⟩, .string ⟨#[]⟩, .bool false, .slice none 0 0, .int .i64 0] 42) w.heap.size (by simp)).trans g0)
  have G1 := (Lib.alloc_old ((w.alloc (.cells #[.slice a1 toks.length c1, .slice (some ⟨b, off, none⟩) nodes.length cap] 47)).alloc (.cells #[.int .i64 0, .string ⟨#[]⟩, .string ⟨#[]⟩, .string ⟨#[]⟩, .bool false, .slice none 0 0, .int .i64 0] 42)) (.cells #[.int .i64 13, .int .i64 (-1), .slice (some ⟨bk, ok, none⟩) ks.length ck] 65) (w.heap.size + 1) (by simp)).trans g1
  have hiI : (i : Int) < (nodes.length : Int) := by omega
  have hkl : (0 : Int) < (ks.length : Int) := by omega
  have hklN : 0 < ks.length := by omega
  have hCT := HT.out
  have hy0 : ((((w.alloc (.cells #[.slice a1 toks.length c1, .slice (some ⟨b, off, none⟩) nodes.length cap] 47)).alloc (.cells #[.int .i64 0, .string ⟨#[]⟩, .string ⟨#[]⟩, .string ⟨#[]⟩, .bool false, .slice none 0 0, .int .i64 0] 42)).alloc (.cells #[.int .i64 13, .int .i64 (-1), .slice (some ⟨bk, ok, none⟩) ks.length ck] 65))).cell? ⟨w.heap.size, 0, none⟩ = some (.slice a1 toks.length c1) := by rw [Lib.cell_of_heap G0]; rfl
  have hy1 : ((((w.alloc (.cells #[.slice a1 toks.length c1, .slice (some ⟨b, off, none⟩) nodes.length cap] 47)).alloc (.cells #[.int .i64 0, .string ⟨#[]⟩, .string ⟨#[]⟩, .string ⟨#[]⟩, .bool false, .slice none 0 0, .int .i64 0] 42)).alloc (.cells #[.int .i64 13, .int .i64 (-1), .slice (some ⟨bk, ok, none⟩) ks.length ck] 65))).cell? ⟨w.heap.size, 1, none⟩ = some (.slice (some ⟨b, off, none⟩) nodes.length cap) := by rw [Lib.cell_of_heap G0]; rfl
  have hq1 : ((w.alloc (.cells #[.slice a1 toks.length c1, .slice (some ⟨b, off, none⟩) nodes.length cap] 47)).alloc (.cells #[.int .i64 0, .string ⟨#[]⟩, .string ⟨#[]⟩, .string ⟨#[]⟩, .bool false, .slice none 0 0, .int .i64 0] 42)).cell? ⟨w.heap.size, 1, none⟩ = some (.slice (some ⟨b, off, none⟩) nodes.length cap) := by rw [Lib.cell_of_heap ((Lib.alloc_old (w.alloc (.cells #[.slice a1 toks.length c1, .slice (some ⟨b, off, none⟩) nodes.length cap] 47)) (.cells #[.int .i64 0, .string ⟨#[]⟩, .string ⟨#[]⟩, .string ⟨#[]⟩, .bool false, .slice none 0 0, .int .i64 0] 42) w.heap.size (by simp)).trans g0)]; rfl
  clear h x0 x1 x2 g0 g1 hal2
  go_enter Tryz.func7, Tryz.ntmps7
  go_upto_region 2 with fail
  generalize ((w.alloc _).alloc _).alloc _ = w2 at G0 G1 g2 hal3 Z3 hy0 hy1 ⊢
  have n2 : w2.cell? ⟨w.heap.size + 1 + 1, 2, none⟩ = some (.slice (some ⟨bk, ok, none⟩) ks.length ck) := by rw [Lib.cell_of_heap g2]; rfl
  have HK' := Lib.hid (fun W (hb : Below w2.heap.size w2 W) => (HK.out W (hCT.below ((hal3.trans (hb.mono hal3.size)).mono hB)) (by have := hal3.size; have := hb.size; omega)).mono (R' := fun e w' => e = .returned (.agg #[.int .i64 t.kind, .string ⟨t.lead.toArray⟩, .string ⟨t.text.toArray⟩, .int .i64 t.place]) ∧ Below w2.heap.size w2 w' ∧ Below W.heap.size W w') fun e w' h => ⟨h.1, hb.trans (h.2.mono hb.size), h.2⟩)
  have hlt2 : w.heap.size + 1 + 1 < w2.heap.size := (Array.getElem?_eq_some_iff.1 g2).1
  have HG := Lib.hid (And.intro G0 (And.intro G1 g2))
  clear G0 G1 g2 X0 X1 X2 hq1 hz hCT
  go_cut [6] (fun p wc => ∃ X : Nat, p = .pointer (some ⟨X, 0, none⟩) ∧ FHead w (.slice a1 toks.length c1) (.slice (some ⟨b, off, none⟩) nodes.length cap) (.int .i64 13) (.slice (some ⟨bk, ok, none⟩) ks.length ck) t X wc)
  case first =>
    go_region_held3 (fun w' => w'.cell? ⟨w.heap.size, 0, none⟩ = some (.slice a1 toks.length c1) ∧ w'.cell? ⟨w.heap.size, 1, none⟩ = some (.slice (some ⟨b, off, none⟩) nodes.length cap) ∧ w'.cell? ⟨w.heap.size + 1 + 1, 2, none⟩ = some (.slice (some ⟨bk, ok, none⟩) ks.length ck) ∧ w'.cell? ⟨bk, ok, none⟩ = some (.int .i64 k0))
      (first | go_keep | exact p3 | exact ⟨(set4_cell w3 w2.heap.size _ _ _ _ (by omega)).trans p3.1, (set4_cell w3 w2.heap.size _ _ _ _ (by omega)).trans p3.2.1, (set4_cell w3 w2.heap.size _ _ _ _ (by omega)).trans p3.2.2.1, (set4_cell w3 w2.heap.size _ _ _ _ (by omega)).trans p3.2.2.2⟩)
      (first | (go_at_call 20; refine (HK'.out _ ?_).mono ?_; (first | exact (Below.refl _ _).drew | exact ((Below.refl _ _).alloc (Nat.le_refl _) _).drew); rintro e w3 ⟨rfl, hq3, hb3⟩; have p3 := And.intro (cell_later hq3 hy0) (And.intro (cell_later hq3 hy1) (And.intro (cell_later hq3 n2) (cell_later hq3 Z3))); try (have hTz := (hb3.block w2.heap.size (by simp)).trans (heap_alloc_new w2 (.cells #[.int .i64 0, .string ⟨#[]⟩, .string ⟨#[]⟩, .int .i64 0] 67)); obtain ⟨tz0, tz1, tz2, tz3, tz4⟩ := ftok0_cells hTz)))
    · have hb3' : Below w.heap.size w w3 := hal3.trans (hq3.mono hal3.size)
      have q0 := (hq3.block w.heap.size (by omega)).trans HG.out.1
      have q1 := (hq3.block (w.heap.size + 1) (by omega)).trans HG.out.2.1
      have q2 := (hq3.block (w.heap.size + 1 + 1) (by omega)).trans HG.out.2.2
      have hz3 := hq3.size
      clear hy0 hy1 n2 Z3 p3
      go_wp2_with fail
      go_meet
      exact ⟨w3.heap.size, rfl, heap_alloc_new w3 (.cells (ftokC t) 67), (Lib.alloc_old w3 _ w.heap.size (by omega)).trans q0, (Lib.alloc_old w3 _ (w.heap.size + 1) (by omega)).trans q1, (Lib.alloc_old w3 _ (w.heap.size + 1 + 1) (by omega)).trans q2, hb3'.alloc hb3'.size _, by omega⟩
    · have hb3' : Below w.heap.size w w3 := hal3.trans (hq3.mono hal3.size)
      have q0 := (hq3.block w.heap.size (by omega)).trans HG.out.1
      have q1 := (hq3.block (w.heap.size + 1) (by omega)).trans HG.out.2.1
      have q2 := (hq3.block (w.heap.size + 1 + 1) (by omega)).trans HG.out.2.2
      obtain ⟨S3, So, _⟩ := store4 hTz (.int .i64 t.kind) (.string ⟨t.lead.toArray⟩) (.string ⟨t.text.toArray⟩) (.int .i64 t.place)
      have hle : w.heap.size ≤ w2.heap.size := by omega
      clear hy0 hy1 n2 Z3 p3 tz0 tz1 tz2 tz3 tz4
      go_wp2_with fail
      go_meet
      exact ⟨w2.heap.size, rfl, S3, (So w.heap.size (by omega)).trans q0, (So (w.heap.size + 1) (by omega)).trans q1, (So (w.heap.size + 1 + 1) (by omega)).trans q2, (((hb3'.setCell hle _).setCell hle _).setCell hle _).setCell hle _, hlt2⟩
  case rest =>
    obtain ⟨X, rfl, hH⟩ := hcut
    obtain ⟨w7, rfl⟩ : ∃ w7 : World, w7 = wc := ⟨_, rfl⟩
    obtain ⟨r0, r1, n0, n2, f2, f3⟩ := hH.cells
    obtain ⟨hl7, hX7⟩ := hH.lt
    have hal7 := hH.2.2.2.2.1
    have hs7 := hal7.size
    have S1 := hH.2.2.1
    have HH := Lib.hid hH
    have hCT := Lib.hid (HT.out.below (hal7.mono hB))
    clear HK HK' HG hal3 hy0 hy1 Z3 hH hlt2
    have HM' := Lib.hid ((HM.out 24 t.place w7 hCT.out (by omega)).mono fun _ _ h => h.rm)
    go_upto_region 23 with (go_at_call 21; refine HM'.out.mono ?_; rintro e w8 ⟨ae, ce, rfl, hxe, hb8⟩)
    have hz8 := hb8.size
    have N9 := heap_alloc_new w8 (.cells (gCells 24 t.place [] [] (.slice ae pes.length ce)) 42)
    have hb9 := hb8.alloc hz8 (.cells (gCells 24 t.place [] [] (.slice ae pes.length ce)) 42)
    have hH9 := HH.out.below hb9
    have hx9 : EAt XR (fun b => w7.heap.size ≤ b ∧ b < w8.heap.size) (w8.alloc (.cells (gCells 24 t.place [] [] (.slice ae pes.length ce)) 42)) .nilIface (.slice ae pes.length ce) (.mk 24 [] [] 0 [] false pes t.place) := (hxe.imp (fun b hb hlt => (⟨hb, hlt⟩ : w7.heap.size ≤ b ∧ b < w8.heap.size))).frame ⟨by simp, fun b _ hb => Lib.alloc_old _ _ _ hb⟩
    have hs9 : (w8.alloc (.cells (gCells 24 t.place [] [] (.slice ae pes.length ce)) 42)).heap.size = w8.heap.size + 1 := by simp
    clear r0 r1 n0 n2 f2 f3 S1 hxe hb8 HM'
    change Code.wp _ _ _ _ (w8.alloc (.cells (gCells 24 t.place [] [] (.slice ae pes.length ce)) 42))
    generalize w8.alloc _ = w9 at N9 hb9 hH9 hx9 hs9 ⊢
    obtain ⟨-, -, -, -, f2, -⟩ := hH9.cells
    obtain ⟨-, e1, -, -, -, -, -, ez⟩ := gCells_all N9
    have HH9 := Lib.hid hH9
    have HN9 := Lib.hid N9
    clear hH9 N9
    go_upto_region 24 with fail
    clear f2 e1 ez
    have hH11 := (HH9.out.below (Below.refl w9.heap.size w9)).set (a := ⟨w8.heap.size, 1, none⟩) (by show w8.heap.size ≠ X; omega) (by show _ < w8.heap.size; omega) (.string ⟨t.text.toArray⟩)
    have E11 : (w9.setCell ⟨w8.heap.size, 1, none⟩ (.string ⟨t.text.toArray⟩)).heap[w8.heap.size]? = some (.cells (gCells 24 t.place t.text [] (.slice ae pes.length ce)) 42 (0, 0)) := heap_setCell_same w9 w8.heap.size 1 _ _ _ HN9.out
    have hx11 := (hx9.frame (Alk.of (Below.refl w9.heap.size w9))).frame (Alk.set (a := ⟨w8.heap.size, 1, none⟩) (.string ⟨t.text.toArray⟩) fun b hb => by show b ≠ w8.heap.size; omega)
    have hs11 : w9.heap.size ≤ (w9.setCell ⟨w8.heap.size, 1, none⟩ (.string ⟨t.text.toArray⟩)).heap.size := by rw [World.size_setCell]; exact ((Below.refl w9.heap.size w9)).size
    generalize w9.setCell _ _ = w11 at hH11 E11 hx11 hs11 ⊢
    have hk1c := HKC.out 1 hp1
    rw [HP1.out] at hk1c
    have k1c := cell_later hH11.2.2.2.2.1 hk1c
    have hp1I : (1 : Int) < (ks.length : Int) := by omega
    obtain ⟨r0, r1, -, n2, -, -⟩ := hH11.cells
    have HX1 := Lib.hid (HL1.out w11.drew (HT.out.below ((hH11.2.2.2.2.1.mono hB).drew)) (by have := hH11.2.2.2.2.1.size; show B ≤ w11.heap.size; omega))
    have HH11 := Lib.hid hH11
    have HE11 := Lib.hid E11
    clear hH11 E11 hk1c
    go_still_tail 5, (by kernel_rfl)
    change wpList _ _ _ _ _ w11.drew
    go_upto_region 27 with (go_at_call 20; refine HX1.out.mono ?_; rintro e w12 ⟨rfl, hb12⟩; have hb12' : Below w11.heap.size w11 w12 := (Below.refl w11.heap.size w11).drew.trans hb12; have E12 := (hb12'.block w8.heap.size (by omega)).trans HE11.out; obtain ⟨-, e1, e2, -, -, -, -, ez⟩ := gCells_all E12)
    have hH12 := HH11.out.below hb12'
    have hx12 := hx11.frame (Alk.of hb12')
    clear r0 r1 n2 k1c e1 e2 ez
    obtain ⟨b0, b1, b2, b3, b4, b5, b6, bz⟩ := gCells_all E12
    obtain ⟨d0, d1, d2, d3, d4, d5, d6⟩ := fCells_all hH12.2.2.1
    have dz := fCells_free hH12.2.2.1
    have hal11 := hH12.2.2.2.2.1
    have HX11 := Lib.hid hx12
    clear E12 hH12 hx12
    go_wp2
    have hE : EAt XR (fun b => w.heap.size ≤ b) (set7 w12 (w.heap.size + 1) (.int .i64 24) (.string ⟨t.text.toArray⟩) (.string ⟨[].toArray⟩) (.string ⟨#[]⟩) (.bool false) (.slice ae pes.length ce) (.int .i64 t.place)) .nilIface (.slice ae pes.length ce) (.mk 24 t.text [] 0 [] false pes t.place) :=
      ((HX11.out.frame (set7_alk _ _ (w.heap.size + 1) _ _ _ _ _ _ _ fun k hk => by omega)).imp fun b hb _ => by omega).rename
    refine bodyPost_ret (v := .agg #[.int .i64 24, .string ⟨t.text.toArray⟩, .string ⟨[].toArray⟩, .string ⟨#[]⟩, .bool false, .slice ae pes.length ce, .int .i64 t.place]) (by simp [results, Tryz.results7, go_sem, d0, d1, d2, d3, d4, d5, d6]) rfl ?_
    exact ⟨_, _, rfl, hE, set7_below hal11 (by omega) _ _ _ _ _ _ _⟩

end Go.Proofs.YtdjkibbnkklajaaGreatDoor
