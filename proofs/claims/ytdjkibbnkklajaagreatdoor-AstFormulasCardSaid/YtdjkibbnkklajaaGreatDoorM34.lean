/- The walks of the code that the claim reaches, and the plain laws: FExprW5. No condition of ours. -/
import Derived.Test.YtdjkibbnkklajaaGreatDoorM32
namespace Go.Proofs.YtdjkibbnkklajaaGreatDoor
open Go.RowKit Go

set_option maxHeartbeats 2000000 in
set_option maxRecDepth 100000 in
/-- True. -/
theorem fexpr_true (B : Nat) (tv nv : Value) (toks : List Tok) (nodes : List Nd) (i : Nat) (ks : List Int) (w : World) (h : TreeAt B w (.agg #[tv, nv]) toks nodes) (hB : B ≤ w.heap.size) (hn : nodes[i]? = some ⟨16, -1, ks⟩)
    (k0 : Nat) (hk0 : ks[0]? = some (k0 : Int)) (t : Tok) (hL : ∀ (W : World), TreeAt B W (.agg #[tv, nv]) toks nodes → B ≤ W.heap.size → Calls Tryz.prog 20 #[.agg #[tv, nv], .int .i64 k0] W fun e w' => e = .returned (tokVal t) ∧ Below W.heap.size W w') (htx : t.text = [116, 114, 117, 101]) (nm : Int) :
    Calls Tryz.prog 7 #[.agg #[tv, nv], .int .i64 i] w (EPost XR (.mk 2 [] [] nm [] true [] t.place) w) := by
  have HTX := Lib.hid htx
  clear htx
  obtain ⟨hi, hni⟩ := List.getElem?_eq_some_iff.1 hn
  obtain ⟨hk1, hk2⟩ := List.getElem?_eq_some_iff.1 hk0
  have HT := Lib.hid h
  obtain ⟨a1, c1, _, _, e⟩ := h.slices
  obtain ⟨b, off, cap, kv, rfl, hb, x0, x1, x2, hkv⟩ := h.node hi
  obtain ⟨rfl, -⟩ : tv = .slice a1 toks.length c1 ∧ _ := by simpa using e
  rw [hni] at x0 x1 hkv
  simp only at x0 x1 hkv
  obtain ⟨ak, ck, rfl, _, hkf⟩ := hkv.form
  obtain ⟨bk, ok, rfl, hbk, hkc⟩ := hkf (by omega)
  have hz := hkc 0 hk1
  rw [hk2] at hz
  simp only [Nat.add_zero] at hz
  have HKC := Lib.hid hkc
  have hL' : ∀ (W : World), TreeAt B W (.agg #[.slice a1 toks.length c1, .slice (some ⟨b, off, none⟩) nodes.length cap]) toks nodes → B ≤ W.heap.size → Calls Tryz.prog 20 #[.agg #[.slice a1 toks.length c1, .slice (some ⟨b, off, none⟩) nodes.length cap], .int .i64 k0] W fun e w' => e = .returned (.agg #[.int .i64 t.kind, .string ⟨t.lead.toArray⟩, .string ⟨t.text.toArray⟩, .int .i64 t.place]) ∧ Below W.heap.size W w' := hL
  have HK := Lib.hid hL'
  clear e hkv hkf hkc hn hni hL hL' hk0
  have hal2 := ((Below.refl w.heap.size w).alloc (Nat.le_refl _) (.cells #[.slice a1 toks.length c1, .slice (some ⟨b, off, none⟩) nodes.length cap] 47)).alloc (by simp) (.cells #[.int .i64 0, .string ⟨#[]⟩, .string ⟨#[]⟩, .string ⟨#[]⟩, .bool false, .slice none 0 0, .int .i64 0] 42)
  have hal3 := hal2.alloc (by simp <;> omega) (.cells #[.int .i64 16, .int .i64 (-1), .slice (some ⟨bk, ok, none⟩) ks.length ck] 65)
  have X0 := cell_later hal2 x0
  have X1 := cell_later hal2 x1
  have X2 := cell_later hal2 x2
  have Z3 := cell_later hal3 hz
  have g0 := heap_alloc_new w (.cells #[.slice a1 toks.length c1, .slice (some ⟨b, off, none⟩) nodes.length cap] 47)
  have g1 := heap_alloc_new (w.alloc (.cells #[.slice a1 toks.length c1, .slice (some ⟨b, off, none⟩) nodes.length cap] 47)) (.cells #[.int .i64 0, .string ⟨#[]⟩, .string ⟨#[]⟩, .string ⟨#[]⟩, .bool false, .slice none 0 0, .int .i64 0] 42)
  have g2 := heap_alloc_new ((w.alloc (.cells #[.slice a1 toks.length c1, .slice (some ⟨b, off, none⟩) nodes.length cap] 47)).alloc (.cells #[.int .i64 0, .string ⟨#[]⟩, .string ⟨#[]⟩, .string ⟨#[]⟩, .bool false, .slice none 0 0, .int .i64 0] 42)) (.cells #[.int .i64 16, .int .i64 (-1), .slice (some ⟨bk, ok, none⟩) ks.length ck] 65)
  rw [World.size_alloc] at g1
  rw [World.size_alloc, World.size_alloc] at g2
  have G0 := (Lib.alloc_old ((w.alloc (.cells #[.slice a1 toks.length c1, .slice (some ⟨b, off, none⟩) nodes.length cap] 47)).alloc (.cells #[.int .i64 0, .string ⟨#[]⟩, .string ⟨#[]⟩, .string ⟨#[]⟩, .bool false, .slice none 0 0, .int .i64 0] 42)) (.cells #[.int .i64 16, .int .i64 (-1), .slice (some ⟨bk, ok, none⟩) ks.length ck] 65) w.heap.size (by simp <;> omega)).trans ((Lib.alloc_old (w.alloc (.cells #[.slice a1 toks.length c1, .slice (some ⟨b, off, none⟩) nodes.length cap] 47)) (.cells #[.int .i64 0, .string ⟨#[]⟩, .string ⟨#[]⟩, .string ⟨#[]⟩, .bool false, .slice none 0 0, .int .i64 0] 42) w.heap.size (by simp)).trans g0)
  have G1 := (Lib.alloc_old ((w.alloc (.cells #[.slice a1 toks.length c1, .slice (some ⟨b, off, none⟩) nodes.length cap] 47)).alloc (.cells #[.int .i64 0, .string ⟨#[]⟩, .string ⟨#[]⟩, .string ⟨#[]⟩, .bool false, .slice none 0 0, .int .i64 0] 42)) (.cells #[.int .i64 16, .int .i64 (-1), .slice (some ⟨bk, ok, none⟩) ks.length ck] 65) (w.heap.size + 1) (by simp)).trans g1
  have hiI : (i : Int) < (nodes.length : Int) := by omega
  have hkl : (0 : Int) < (ks.length : Int) := by omega
  have hklN : 0 < ks.length := by omega
  have hCT := HT.out
  have hy0 : ((((w.alloc (.cells #[.slice a1 toks.length c1, .slice (some ⟨b, off, none⟩) nodes.length cap] 47)).alloc (.cells #[.int .i64 0, .string ⟨#[]⟩, .string ⟨#[]⟩, .string ⟨#[]⟩, .bool false, .slice none 0 0, .int .i64 0] 42)).alloc (.cells #[.int .i64 16, .int .i64 (-1), .slice (some ⟨bk, ok, none⟩) ks.length ck] 65))).cell? ⟨w.heap.size, 0, none⟩ = some (.slice a1 toks.length c1) := by rw [Lib.cell_of_heap G0]; rfl
  have hy1 : ((((w.alloc (.cells #[.slice a1 toks.length c1, .slice (some ⟨b, off, none⟩) nodes.length cap] 47)).alloc (.cells #[.int .i64 0, .string ⟨#[]⟩, .string ⟨#[]⟩, .string ⟨#[]⟩, .bool false, .slice none 0 0, .int .i64 0] 42)).alloc (.cells #[.int .i64 16, .int .i64 (-1), .slice (some ⟨bk, ok, none⟩) ks.length ck] 65))).cell? ⟨w.heap.size, 1, none⟩ = some (.slice (some ⟨b, off, none⟩) nodes.length cap) := by rw [Lib.cell_of_heap G0]; rfl
  have hq1 : ((w.alloc (.cells #[.slice a1 toks.length c1, .slice (some ⟨b, off, none⟩) nodes.length cap] 47)).alloc (.cells #[.int .i64 0, .string ⟨#[]⟩, .string ⟨#[]⟩, .string ⟨#[]⟩, .bool false, .slice none 0 0, .int .i64 0] 42)).cell? ⟨w.heap.size, 1, none⟩ = some (.slice (some ⟨b, off, none⟩) nodes.length cap) := by rw [Lib.cell_of_heap ((Lib.alloc_old (w.alloc (.cells #[.slice a1 toks.length c1, .slice (some ⟨b, off, none⟩) nodes.length cap] 47)) (.cells #[.int .i64 0, .string ⟨#[]⟩, .string ⟨#[]⟩, .string ⟨#[]⟩, .bool false, .slice none 0 0, .int .i64 0] 42) w.heap.size (by simp)).trans g0)]; rfl
  clear h x0 x1 x2 g0 g1 hal2
  go_enter Tryz.func7, Tryz.ntmps7
  go_upto_region 2 with fail
  generalize ((w.alloc _).alloc _).alloc _ = w2 at G0 G1 g2 hal3 Z3 hy0 hy1 ⊢
  have n2 : w2.cell? ⟨w.heap.size + 1 + 1, 2, none⟩ = some (.slice (some ⟨bk, ok, none⟩) ks.length ck) := by rw [Lib.cell_of_heap g2]; rfl
  have HK' := Lib.hid (fun W (hb : Below w2.heap.size w2 W) => (HK.out W (hCT.below ((hal3.trans (hb.mono hal3.size)).mono hB)) (by have := hal3.size; have := hb.size; omega)).mono (R' := fun e w' => e = .returned (.agg #[.int .i64 t.kind, .string ⟨t.lead.toArray⟩, .string ⟨t.text.toArray⟩, .int .i64 t.place]) ∧ Below w2.heap.size w2 w' ∧ Below W.heap.size W w') fun e w' h => ⟨h.1, hb.trans (h.2.mono hb.size), h.2⟩)
  have hlt2 : w.heap.size + 1 + 1 < w2.heap.size := (Array.getElem?_eq_some_iff.1 g2).1
  have HG := Lib.hid (And.intro G0 (And.intro G1 g2))
  clear G0 G1 g2 X0 X1 X2 hq1 hz hCT
  go_cut [6] (fun p wc => ∃ X : Nat, p = .pointer (some ⟨X, 0, none⟩) ∧ FHead w (.slice a1 toks.length c1) (.slice (some ⟨b, off, none⟩) nodes.length cap) (.int .i64 16) (.slice (some ⟨bk, ok, none⟩) ks.length ck) t X wc)
  case first =>
    go_region_held3 (fun w' => w'.cell? ⟨w.heap.size, 0, none⟩ = some (.slice a1 toks.length c1) ∧ w'.cell? ⟨w.heap.size, 1, none⟩ = some (.slice (some ⟨b, off, none⟩) nodes.length cap) ∧ w'.cell? ⟨w.heap.size + 1 + 1, 2, none⟩ = some (.slice (some ⟨bk, ok, none⟩) ks.length ck) ∧ w'.cell? ⟨bk, ok, none⟩ = some (.int .i64 k0))
      (first | go_keep | exact p3 | exact ⟨(set4_cell w3 w2.heap.size _ _ _ _ (by omega)).trans p3.1, (set4_cell w3 w2.heap.size _ _ _ _ (by omega)).trans p3.2.1, (set4_cell w3 w2.heap.size _ _ _ _ (by omega)).trans p3.2.2.1, (set4_cell w3 w2.heap.size _ _ _ _ (by omega)).trans p3.2.2.2⟩)
      (first | (go_at_call 20; refine (HK'.out _ ?_).mono ?_; (first | exact (Below.refl _ _).drew | exact ((Below.refl _ _).alloc (Nat.le_refl _) _).drew); rintro e w3 ⟨rfl, hq3, hb3⟩; have p3 := And.intro (cell_later hq3 hy0) (And.intro (cell_later hq3 hy1) (And.intro (cell_later hq3 n2) (cell_later hq3 Z3))); try (have hTz := (hb3.block w2.heap.size (by simp)).trans (heap_alloc_new w2 (.cells #[.int .i64 0, .string ⟨#[]⟩, .string ⟨#[]⟩, .int .i64 0] 67)); obtain ⟨tz0, tz1, tz2, tz3, tz4⟩ := ftok0_cells hTz)))
    · have hb3' : Below w.heap.size w w3 := hal3.trans (hq3.mono hal3.size)
      have q0 := (hq3.block w.heap.size (by omega)).trans HG.out.1
      have q1 := (hq3.block (w.heap.size + 1) (by omega)).trans HG.out.2.1
      have q2 := (hq3.block (w.heap.size + 1 + 1) (by omega)).trans HG.out.2.2
      have hz3 := hq3.size
      clear hy0 hy1 n2 Z3 p3
      go_wp2_with fail
      go_meet
      exact ⟨w3.heap.size, rfl, heap_alloc_new w3 (.cells (ftokC t) 67), (Lib.alloc_old w3 _ w.heap.size (by omega)).trans q0, (Lib.alloc_old w3 _ (w.heap.size + 1) (by omega)).trans q1, (Lib.alloc_old w3 _ (w.heap.size + 1 + 1) (by omega)).trans q2, hb3'.alloc hb3'.size _, by omega⟩
    · have hb3' : Below w.heap.size w w3 := hal3.trans (hq3.mono hal3.size)
      have q0 := (hq3.block w.heap.size (by omega)).trans HG.out.1
      have q1 := (hq3.block (w.heap.size + 1) (by omega)).trans HG.out.2.1
      have q2 := (hq3.block (w.heap.size + 1 + 1) (by omega)).trans HG.out.2.2
      obtain ⟨S3, So, _⟩ := store4 hTz (.int .i64 t.kind) (.string ⟨t.lead.toArray⟩) (.string ⟨t.text.toArray⟩) (.int .i64 t.place)
      have hle : w.heap.size ≤ w2.heap.size := by omega
      clear hy0 hy1 n2 Z3 p3 tz0 tz1 tz2 tz3 tz4
      go_wp2_with fail
      go_meet
      exact ⟨w2.heap.size, rfl, S3, (So w.heap.size (by omega)).trans q0, (So (w.heap.size + 1) (by omega)).trans q1, (So (w.heap.size + 1 + 1) (by omega)).trans q2, (((hb3'.setCell hle _).setCell hle _).setCell hle _).setCell hle _, hlt2⟩
  case rest =>
    obtain ⟨X, rfl, hH⟩ := hcut
    obtain ⟨w7, rfl⟩ : ∃ w7 : World, w7 = wc := ⟨_, rfl⟩
    obtain ⟨r0, r1, n0, n2, f2, f3⟩ := hH.cells
    obtain ⟨hl7, hX7⟩ := hH.lt
    have hal7 := hH.2.2.2.2.1
    have hs7 := hal7.size
    have S1 := hH.2.2.1
    have HH := Lib.hid hH
    have hCT := Lib.hid (HT.out.below (hal7.mono hB))
    clear HK HK' HG hal3 hy0 hy1 Z3 hH hlt2
    rw [HTX.out] at f2
    replace f2 : w7.cell? ⟨X, 2, none⟩ = some (.string ⟨#[116, 114, 117, 101]⟩) := f2
    obtain ⟨d0, d1, d2, d3, d4, d5, d6⟩ := fCells_all S1
    have dz := fCells_free S1
    go_wp2
    have hE : EAt XR (fun b => w.heap.size ≤ b) (set7 w7 (w.heap.size + 1) (.int .i64 2) (.string ⟨#[]⟩) (.string ⟨#[]⟩) (.string ⟨#[]⟩) (.bool true) (.slice none 0 0) (.int .i64 t.place)) .nilIface (.slice none 0 0) (.mk 2 [] [] nm [] true [] t.place) := by
      rw [EAt]
      exact ⟨trivial, [], SlP.nil _ _ _, by rw [EAtL]⟩
    refine bodyPost_ret (v := .agg #[.int .i64 2, .string ⟨#[]⟩, .string ⟨#[]⟩, .string ⟨#[]⟩, .bool true, .slice none 0 0, .int .i64 t.place]) (by simp [results, Tryz.results7, go_sem, d0, d1, d2, d3, d4, d5, d6]) rfl ?_
    exact ⟨_, _, rfl, hE, set7_below hal7 (by omega) _ _ _ _ _ _ _⟩

set_option maxHeartbeats 2000000 in
set_option maxRecDepth 100000 in
/-- False. -/
theorem fexpr_false (B : Nat) (tv nv : Value) (toks : List Tok) (nodes : List Nd) (i : Nat) (ks : List Int) (w : World) (h : TreeAt B w (.agg #[tv, nv]) toks nodes) (hB : B ≤ w.heap.size) (hn : nodes[i]? = some ⟨16, -1, ks⟩)
    (k0 : Nat) (hk0 : ks[0]? = some (k0 : Int)) (t : Tok) (hL : ∀ (W : World), TreeAt B W (.agg #[tv, nv]) toks nodes → B ≤ W.heap.size → Calls Tryz.prog 20 #[.agg #[tv, nv], .int .i64 k0] W fun e w' => e = .returned (tokVal t) ∧ Below W.heap.size W w') (htx : t.text = [102, 97, 108, 115, 101]) (nm : Int) :
    Calls Tryz.prog 7 #[.agg #[tv, nv], .int .i64 i] w (EPost XR (.mk 2 [] [] nm [] false [] t.place) w) := by
  have HTX := Lib.hid htx
  clear htx
  obtain ⟨hi, hni⟩ := List.getElem?_eq_some_iff.1 hn
  obtain ⟨hk1, hk2⟩ := List.getElem?_eq_some_iff.1 hk0
  have HT := Lib.hid h
  obtain ⟨a1, c1, _, _, e⟩ := h.slices
  obtain ⟨b, off, cap, kv, rfl, hb, x0, x1, x2, hkv⟩ := h.node hi
  obtain ⟨rfl, -⟩ : tv = .slice a1 toks.length c1 ∧ _ := by simpa using e
  rw [hni] at x0 x1 hkv
  simp only at x0 x1 hkv
  obtain ⟨ak, ck, rfl, _, hkf⟩ := hkv.form
  obtain ⟨bk, ok, rfl, hbk, hkc⟩ := hkf (by omega)
  have hz := hkc 0 hk1
  rw [hk2] at hz
  simp only [Nat.add_zero] at hz
  have HKC := Lib.hid hkc
  have hL' : ∀ (W : World), TreeAt B W (.agg #[.slice a1 toks.length c1, .slice (some ⟨b, off, none⟩) nodes.length cap]) toks nodes → B ≤ W.heap.size → Calls Tryz.prog 20 #[.agg #[.slice a1 toks.length c1, .slice (some ⟨b, off, none⟩) nodes.length cap], .int .i64 k0] W fun e w' => e = .returned (.agg #[.int .i64 t.kind, .string ⟨t.lead.toArray⟩, .string ⟨t.text.toArray⟩, .int .i64 t.place]) ∧ Below W.heap.size W w' := hL
  have HK := Lib.hid hL'
  clear e hkv hkf hkc hn hni hL hL' hk0
  have hal2 := ((Below.refl w.heap.size w).alloc (Nat.le_refl _) (.cells #[.slice a1 toks.length c1, .slice (some ⟨b, off, none⟩) nodes.length cap] 47)).alloc (by simp) (.cells #[.int .i64 0, .string ⟨#[]⟩, .string ⟨#[]⟩, .string ⟨#[]⟩, .bool false, .slice none 0 0, .int .i64 0] 42)
  have hal3 := hal2.alloc (by simp <;> omega) (.cells #[.int .i64 16, .int .i64 (-1), .slice (some ⟨bk, ok, none⟩) ks.length ck] 65)
  have X0 := cell_later hal2 x0
  have X1 := cell_later hal2 x1
  have X2 := cell_later hal2 x2
  have Z3 := cell_later hal3 hz
  have g0 := heap_alloc_new w (.cells #[.slice a1 toks.length c1, .slice (some ⟨b, off, none⟩) nodes.length cap] 47)
  have g1 := heap_alloc_new (w.alloc (.cells #[.slice a1 toks.length c1, .slice (some ⟨b, off, none⟩) nodes.length cap] 47)) (.cells #[.int .i64 0, .string ⟨#[]⟩, .string ⟨#[]⟩, .string ⟨#[]⟩, .bool false, .slice none 0 0, .int .i64 0] 42)
  have g2 := heap_alloc_new ((w.alloc (.cells #[.slice a1 toks.length c1, .slice (some ⟨b, off, none⟩) nodes.length cap] 47)).alloc (.cells #[.int .i64 0, .string ⟨#[]⟩, .string ⟨#[]⟩, .string ⟨#[]⟩, .bool false, .slice none 0 0, .int .i64 0] 42)) (.cells #[.int .i64 16, .int .i64 (-1), .slice (some ⟨bk, ok, none⟩) ks.length ck] 65)
  rw [World.size_alloc] at g1
  rw [World.size_alloc, World.size_alloc] at g2
  have G0 := (Lib.alloc_old ((w.alloc (.cells #[.slice a1 toks.length c1, .slice (some ⟨b, off, none⟩) nodes.length cap] 47)).alloc (.cells #[.int .i64 0, .string ⟨#[]⟩, .string ⟨#[]⟩, .string ⟨#[]⟩, .bool false, .slice none 0 0, .int .i64 0] 42)) (.cells #[.int .i64 16, .int .i64 (-1), .slice (some ⟨bk, ok, none⟩) ks.length ck] 65) w.heap.size (by simp <;> omega)).trans ((Lib.alloc_old (w.alloc (.cells #[.slice a1 toks.length c1, .slice (some ⟨b, off, none⟩) nodes.length cap] 47)) (.cells #[.int .i64 0, .string ⟨#[]⟩, .string ⟨#[]⟩, .string ⟨#[]⟩, .bool false, .slice none 0 0, .int .i64 0] 42) w.heap.size (by simp)).trans g0)
  have G1 := (Lib.alloc_old ((w.alloc (.cells #[.slice a1 toks.length c1, .slice (some ⟨b, off, none⟩) nodes.length cap] 47)).alloc (.cells #[.int .i64 0, .string ⟨#[]⟩, .string ⟨#[]⟩, .string ⟨#[]⟩, .bool false, .slice none 0 0, .int .i64 0] 42)) (.cells #[.int .i64 16, .int .i64 (-1), .slice (some ⟨bk, ok, none⟩) ks.length ck] 65) (w.heap.size + 1) (by simp)).trans g1
  have hiI : (i : Int) < (nodes.length : Int) := by omega
  have hkl : (0 : Int) < (ks.length : Int) := by omega
  have hklN : 0 < ks.length := by omega
  have hCT := HT.out
  have hy0 : ((((w.alloc (.cells #[.slice a1 toks.length c1, .slice (some ⟨b, off, none⟩) nodes.length cap] 47)).alloc (.cells #[.int .i64 0, .string ⟨#[]⟩, .string ⟨#[]⟩, .string ⟨#[]⟩, .bool false, .slice none 0 0, .int .i64 0] 42)).alloc (.cells #[.int .i64 16, .int .i64 (-1), .slice (some ⟨bk, ok, none⟩) ks.length ck] 65))).cell? ⟨w.heap.size, 0, none⟩ = some (.slice a1 toks.length c1) := by rw [Lib.cell_of_heap G0]; rfl
  have hy1 : ((((w.alloc (.cells #[.slice a1 toks.length c1, .slice (some ⟨b, off, none⟩) nodes.length cap] 47)).alloc (.cells #[.int .i64 0, .string ⟨#[]⟩, .string ⟨#[]⟩, .string ⟨#[]⟩, .bool false, .slice none 0 0, .int .i64 0] 42)).alloc (.cells #[.int .i64 16, .int .i64 (-1), .slice (some ⟨bk, ok, none⟩) ks.length ck] 65))).cell? ⟨w.heap.size, 1, none⟩ = some (.slice (some ⟨b, off, none⟩) nodes.length cap) := by rw [Lib.cell_of_heap G0]; rfl
  have hq1 : ((w.alloc (.cells #[.slice a1 toks.length c1, .slice (some ⟨b, off, none⟩) nodes.length cap] 47)).alloc (.cells #[.int .i64 0, .string ⟨#[]⟩, .string ⟨#[]⟩, .string ⟨#[]⟩, .bool false, .slice none 0 0, .int .i64 0] 42)).cell? ⟨w.heap.size, 1, none⟩ = some (.slice (some ⟨b, off, none⟩) nodes.length cap) := by rw [Lib.cell_of_heap ((Lib.alloc_old (w.alloc (.cells #[.slice a1 toks.length c1, .slice (some ⟨b, off, none⟩) nodes.length cap] 47)) (.cells #[.int .i64 0, .string ⟨#[]⟩, .string ⟨#[]⟩, .string ⟨#[]⟩, .bool false, .slice none 0 0, .int .i64 0] 42) w.heap.size (by simp)).trans g0)]; rfl
  clear h x0 x1 x2 g0 g1 hal2
  go_enter Tryz.func7, Tryz.ntmps7
  go_upto_region 2 with fail
  generalize ((w.alloc _).alloc _).alloc _ = w2 at G0 G1 g2 hal3 Z3 hy0 hy1 ⊢
  have n2 : w2.cell? ⟨w.heap.size + 1 + 1, 2, none⟩ = some (.slice (some ⟨bk, ok, none⟩) ks.length ck) := by rw [Lib.cell_of_heap g2]; rfl
  have HK' := Lib.hid (fun W (hb : Below w2.heap.size w2 W) => (HK.out W (hCT.below ((hal3.trans (hb.mono hal3.size)).mono hB)) (by have := hal3.size; have := hb.size; omega)).mono (R' := fun e w' => e = .returned (.agg #[.int .i64 t.kind, .string ⟨t.lead.toArray⟩, .string ⟨t.text.toArray⟩, .int .i64 t.place]) ∧ Below w2.heap.size w2 w' ∧ Below W.heap.size W w') fun e w' h => ⟨h.1, hb.trans (h.2.mono hb.size), h.2⟩)
  have hlt2 : w.heap.size + 1 + 1 < w2.heap.size := (Array.getElem?_eq_some_iff.1 g2).1
  have HG := Lib.hid (And.intro G0 (And.intro G1 g2))
  clear G0 G1 g2 X0 X1 X2 hq1 hz hCT
  go_cut [6] (fun p wc => ∃ X : Nat, p = .pointer (some ⟨X, 0, none⟩) ∧ FHead w (.slice a1 toks.length c1) (.slice (some ⟨b, off, none⟩) nodes.length cap) (.int .i64 16) (.slice (some ⟨bk, ok, none⟩) ks.length ck) t X wc)
  case first =>
    go_region_held3 (fun w' => w'.cell? ⟨w.heap.size, 0, none⟩ = some (.slice a1 toks.length c1) ∧ w'.cell? ⟨w.heap.size, 1, none⟩ = some (.slice (some ⟨b, off, none⟩) nodes.length cap) ∧ w'.cell? ⟨w.heap.size + 1 + 1, 2, none⟩ = some (.slice (some ⟨bk, ok, none⟩) ks.length ck) ∧ w'.cell? ⟨bk, ok, none⟩ = some (.int .i64 k0))
      (first | go_keep | exact p3 | exact ⟨(set4_cell w3 w2.heap.size _ _ _ _ (by omega)).trans p3.1, (set4_cell w3 w2.heap.size _ _ _ _ (by omega)).trans p3.2.1, (set4_cell w3 w2.heap.size _ _ _ _ (by omega)).trans p3.2.2.1, (set4_cell w3 w2.heap.size _ _ _ _ (by omega)).trans p3.2.2.2⟩)
      (first | (go_at_call 20; refine (HK'.out _ ?_).mono ?_; (first | exact (Below.refl _ _).drew | exact ((Below.refl _ _).alloc (Nat.le_refl _) _).drew); rintro e w3 ⟨rfl, hq3, hb3⟩; have p3 := And.intro (cell_later hq3 hy0) (And.intro (cell_later hq3 hy1) (And.intro (cell_later hq3 n2) (cell_later hq3 Z3))); try (have hTz := (hb3.block w2.heap.size (by simp)).trans (heap_alloc_new w2 (.cells #[.int .i64 0, .string ⟨#[]⟩, .string ⟨#[]⟩, .int .i64 0] 67)); obtain ⟨tz0, tz1, tz2, tz3, tz4⟩ := ftok0_cells hTz)))
    · have hb3' : Below w.heap.size w w3 := hal3.trans (hq3.mono hal3.size)
      have q0 := (hq3.block w.heap.size (by omega)).trans HG.out.1
      have q1 := (hq3.block (w.heap.size + 1) (by omega)).trans HG.out.2.1
      have q2 := (hq3.block (w.heap.size + 1 + 1) (by omega)).trans HG.out.2.2
      have hz3 := hq3.size
      clear hy0 hy1 n2 Z3 p3
      go_wp2_with fail
      go_meet
      exact ⟨w3.heap.size, rfl, heap_alloc_new w3 (.cells (ftokC t) 67), (Lib.alloc_old w3 _ w.heap.size (by omega)).trans q0, (Lib.alloc_old w3 _ (w.heap.size + 1) (by omega)).trans q1, (Lib.alloc_old w3 _ (w.heap.size + 1 + 1) (by omega)).trans q2, hb3'.alloc hb3'.size _, by omega⟩
    · have hb3' : Below w.heap.size w w3 := hal3.trans (hq3.mono hal3.size)
      have q0 := (hq3.block w.heap.size (by omega)).trans HG.out.1
      have q1 := (hq3.block (w.heap.size + 1) (by omega)).trans HG.out.2.1
      have q2 := (hq3.block (w.heap.size + 1 + 1) (by omega)).trans HG.out.2.2
      obtain ⟨S3, So, _⟩ := store4 hTz (.int .i64 t.kind) (.string ⟨t.lead.toArray⟩) (.string ⟨t.text.toArray⟩) (.int .i64 t.place)
      have hle : w.heap.size ≤ w2.heap.size := by omega
      clear hy0 hy1 n2 Z3 p3 tz0 tz1 tz2 tz3 tz4
      go_wp2_with fail
      go_meet
      exact ⟨w2.heap.size, rfl, S3, (So w.heap.size (by omega)).trans q0, (So (w.heap.size + 1) (by omega)).trans q1, (So (w.heap.size + 1 + 1) (by omega)).trans q2, (((hb3'.setCell hle _).setCell hle _).setCell hle _).setCell hle _, hlt2⟩
  case rest =>
    obtain ⟨X, rfl, hH⟩ := hcut
    obtain ⟨w7, rfl⟩ : ∃ w7 : World, w7 = wc := ⟨_, rfl⟩
    obtain ⟨r0, r1, n0, n2, f2, f3⟩ := hH.cells
    obtain ⟨hl7, hX7⟩ := hH.lt
    have hal7 := hH.2.2.2.2.1
    have hs7 := hal7.size
    have S1 := hH.2.2.1
    have HH := Lib.hid hH
    have hCT := Lib.hid (HT.out.below (hal7.mono hB))
    clear HK HK' HG hal3 hy0 hy1 Z3 hH hlt2
    rw [HTX.out] at f2
    replace f2 : w7.cell? ⟨X, 2, none⟩ = some (.string ⟨#[102, 97, 108, 115, 101]⟩) := f2
    obtain ⟨d0, d1, d2, d3, d4, d5, d6⟩ := fCells_all S1
    have dz := fCells_free S1
    go_wp2
    have hE : EAt XR (fun b => w.heap.size ≤ b) (set7 w7 (w.heap.size + 1) (.int .i64 2) (.string ⟨#[]⟩) (.string ⟨#[]⟩) (.string ⟨#[]⟩) (.bool false) (.slice none 0 0) (.int .i64 t.place)) .nilIface (.slice none 0 0) (.mk 2 [] [] nm [] false [] t.place) := by
      rw [EAt]
      exact ⟨trivial, [], SlP.nil _ _ _, by rw [EAtL]⟩
    refine bodyPost_ret (v := .agg #[.int .i64 2, .string ⟨#[]⟩, .string ⟨#[]⟩, .string ⟨#[]⟩, .bool false, .slice none 0 0, .int .i64 t.place]) (by simp [results, Tryz.results7, go_sem, d0, d1, d2, d3, d4, d5, d6]) rfl ?_
    exact ⟨_, _, rfl, hE, set7_below hal7 (by omega) _ _ _ _ _ _ _⟩

set_option maxHeartbeats 2000000 in
set_option maxRecDepth 100000 in
/-- A group. -/
theorem fexpr_group (x : PE) (B : Nat) (tv nv : Value) (toks : List Tok) (nodes : List Nd) (i : Nat) (ks : List Int) (w : World) (h : TreeAt B w (.agg #[tv, nv]) toks nodes) (hB : B ≤ w.heap.size) (hn : nodes[i]? = some ⟨12, -1, ks⟩)
    (k0 : Nat) (hk0 : ks[0]? = some (k0 : Int)) (t : Tok) (hL : ∀ (W : World), TreeAt B W (.agg #[tv, nv]) toks nodes → B ≤ W.heap.size → Calls Tryz.prog 20 #[.agg #[tv, nv], .int .i64 k0] W fun e w' => e = .returned (tokVal t) ∧ Below W.heap.size W w') (k1 : Nat) (hq1 : ks[1]? = some (k1 : Int)) (hF : ∀ (W : World), TreeAt B W (.agg #[tv, nv]) toks nodes → B ≤ W.heap.size → Calls Tryz.prog 7 #[.agg #[tv, nv], .int .i64 k1] W (EPost XR x W)) :
    Calls Tryz.prog 7 #[.agg #[tv, nv], .int .i64 i] w (EPost XR x w) := by
  have HF := Lib.hid hF
  obtain ⟨hp1, hp2⟩ := List.getElem?_eq_some_iff.1 hq1
  clear hF hq1
  obtain ⟨hi, hni⟩ := List.getElem?_eq_some_iff.1 hn
  obtain ⟨hk1, hk2⟩ := List.getElem?_eq_some_iff.1 hk0
  have HT := Lib.hid h
  obtain ⟨a1, c1, _, _, e⟩ := h.slices
  obtain ⟨b, off, cap, kv, rfl, hb, x0, x1, x2, hkv⟩ := h.node hi
  obtain ⟨rfl, -⟩ : tv = .slice a1 toks.length c1 ∧ _ := by simpa using e
  rw [hni] at x0 x1 hkv
  simp only at x0 x1 hkv
  obtain ⟨ak, ck, rfl, _, hkf⟩ := hkv.form
  obtain ⟨bk, ok, rfl, hbk, hkc⟩ := hkf (by omega)
  have hz := hkc 0 hk1
  rw [hk2] at hz
  simp only [Nat.add_zero] at hz
  have HKC := Lib.hid hkc
  have hL' : ∀ (W : World), TreeAt B W (.agg #[.slice a1 toks.length c1, .slice (some ⟨b, off, none⟩) nodes.length cap]) toks nodes → B ≤ W.heap.size → Calls Tryz.prog 20 #[.agg #[.slice a1 toks.length c1, .slice (some ⟨b, off, none⟩) nodes.length cap], .int .i64 k0] W fun e w' => e = .returned (.agg #[.int .i64 t.kind, .string ⟨t.lead.toArray⟩, .string ⟨t.text.toArray⟩, .int .i64 t.place]) ∧ Below W.heap.size W w' := hL
  have HK := Lib.hid hL'
  clear e hkv hkf hkc hn hni hL hL' hk0
  have hal2 := ((Below.refl w.heap.size w).alloc (Nat.le_refl _) (.cells #[.slice a1 toks.length c1, .slice (some ⟨b, off, none⟩) nodes.length cap] 47)).alloc (by simp) (.cells #[.int .i64 0, .string ⟨#[]⟩, .string ⟨#[]⟩, .string ⟨#[]⟩, .bool false, .slice none 0 0, .int .i64 0] 42)
  have hal3 := hal2.alloc (by simp <;> omega) (.cells #[.int .i64 12, .int .i64 (-1), .slice (some ⟨bk, ok, none⟩) ks.length ck] 65)
  have X0 := cell_later hal2 x0
  have X1 := cell_later hal2 x1
  have X2 := cell_later hal2 x2
  have Z3 := cell_later hal3 hz
  have g0 := heap_alloc_new w (.cells #[.slice a1 toks.length c1, .slice (some ⟨b, off, none⟩) nodes.length cap] 47)
  have g1 := heap_alloc_new (w.alloc (.cells #[.slice a1 toks.length c1, .slice (some ⟨b, off, none⟩) nodes.length cap] 47)) (.cells #[.int .i64 0, .string ⟨#[]⟩, .string ⟨#[]⟩, .string ⟨#[]⟩, .bool false, .slice none 0 0, .int .i64 0] 42)
  have g2 := heap_alloc_new ((w.alloc (.cells #[.slice a1 toks.length c1, .slice (some ⟨b, off, none⟩) nodes.length cap] 47)).alloc (.cells #[.int .i64 0, .string ⟨#[]⟩, .string ⟨#[]⟩, .string ⟨#[]⟩, .bool false, .slice none 0 0, .int .i64 0] 42)) (.cells #[.int .i64 12, .int .i64 (-1), .slice (some ⟨bk, ok, none⟩) ks.length ck] 65)
  rw [World.size_alloc] at g1
  rw [World.size_alloc, World.size_alloc] at g2
  have G0 := (Lib.alloc_old ((w.alloc (.cells #[.slice a1 toks.length c1, .slice (some ⟨b, off, none⟩) nodes.length cap] 47)).alloc (.cells #[.int .i64 0, .string ⟨#[]⟩, .string ⟨#[]⟩, .string ⟨#[]⟩, .bool false, .slice none 0 0, .int .i64 0] 42)) (.cells #[.int .i64 12, .int .i64 (-1), .slice (some ⟨bk, ok, none⟩) ks.length ck] 65) w.heap.size (by simp <;> omega)).trans ((Lib.alloc_old (w.alloc (.cells #[.slice a1 toks.length c1, .slice (some ⟨b, off, none⟩) nodes.length cap] 47)) (.cells #[.int .i64 0, .string ⟨#[]⟩, .string ⟨#[]⟩, .string ⟨#[]⟩, .bool false, .slice none 0 0, .int .i64 0] 42) w.heap.size (by simp)).trans g0)
  have G1 := (Lib.alloc_old ((w.alloc (.cells #[.slice a1 toks.length c1, .slice (some ⟨b, off, none⟩) nodes.length cap] 47)).alloc (.cells #[.int .i64 0, .string ⟨#[]⟩, .string ⟨#[]⟩, .string ⟨#[]⟩, .bool false, .slice none 0 0, .int .i64 0] 42)) (.cells #[.int .i64 12, .int .i64 (-1), .slice (some ⟨bk, ok, none⟩) ks.length ck] 65) (w.heap.size + 1) (by simp)).trans g1
  have hiI : (i : Int) < (nodes.length : Int) := by omega
  have hkl : (0 : Int) < (ks.length : Int) := by omega
  have hklN : 0 < ks.length := by omega
  have hCT := HT.out
  have hy0 : ((((w.alloc (.cells #[.slice a1 toks.length c1, .slice (some ⟨b, off, none⟩) nodes.length cap] 47)).alloc (.cells #[.int .i64 0, .string ⟨#[]⟩, .string ⟨#[]⟩, .string ⟨#[]⟩, .bool false, .slice none 0 0, .int .i64 0] 42)).alloc (.cells #[.int .i64 12, .int .i64 (-1), .slice (some ⟨bk, ok, none⟩) ks.length ck] 65))).cell? ⟨w.heap.size, 0, none⟩ = some (.slice a1 toks.length c1) := by rw [Lib.cell_of_heap G0]; rfl
  have hy1 : ((((w.alloc (.cells #[.slice a1 toks.length c1, .slice (some ⟨b, off, none⟩) nodes.length cap] 47)).alloc (.cells #[.int .i64 0, .string ⟨#[]⟩, .string ⟨#[]⟩, .string ⟨#[]⟩, .bool false, .slice none 0 0, .int .i64 0] 42)).alloc (.cells #[.int .i64 12, .int .i64 (-1), .slice (some ⟨bk, ok, none⟩) ks.length ck] 65))).cell? ⟨w.heap.size, 1, none⟩ = some (.slice (some ⟨b, off, none⟩) nodes.length cap) := by rw [Lib.cell_of_heap G0]; rfl
  have hq1 : ((w.alloc (.cells #[.slice a1 toks.length c1, .slice (some ⟨b, off, none⟩) nodes.length cap] 47)).alloc (.cells #[.int .i64 0, .string ⟨#[]⟩, .string ⟨#[]⟩, .string ⟨#[]⟩, .bool false, .slice none 0 0, .int .i64 0] 42)).cell? ⟨w.heap.size, 1, none⟩ = some (.slice (some ⟨b, off, none⟩) nodes.length cap) := by rw [Lib.cell_of_heap ((Lib.alloc_old (w.alloc (.cells #[.slice a1 toks.length c1, .slice (some ⟨b, off, none⟩) nodes.length cap] 47)) (.cells #[.int .i64 0, .string ⟨#[]⟩, .string ⟨#[]⟩, .string ⟨#[]⟩, .bool false, .slice none 0 0, .int .i64 0] 42) w.heap.size (by simp)).trans g0)]; rfl
  clear h x0 x1 x2 g0 g1 hal2
  go_enter Tryz.func7, Tryz.ntmps7
  go_upto_region 2 with fail
  generalize ((w.alloc _).alloc _).alloc _ = w2 at G0 G1 g2 hal3 Z3 hy0 hy1 ⊢
  have n2 : w2.cell? ⟨w.heap.size + 1 + 1, 2, none⟩ = some (.slice (some ⟨bk, ok, none⟩) ks.length ck) := by rw [Lib.cell_of_heap g2]; rfl
  have HK' := Lib.hid (fun W (hb : Below w2.heap.size w2 W) => (HK.out W (hCT.below ((hal3.trans (hb.mono hal3.size)).mono hB)) (by have := hal3.size; have := hb.size; omega)).mono (R' := fun e w' => e = .returned (.agg #[.int .i64 t.kind, .string ⟨t.lead.toArray⟩, .string ⟨t.text.toArray⟩, .int .i64 t.place]) ∧ Below w2.heap.size w2 w' ∧ Below W.heap.size W w') fun e w' h => ⟨h.1, hb.trans (h.2.mono hb.size), h.2⟩)
  have hlt2 : w.heap.size + 1 + 1 < w2.heap.size := (Array.getElem?_eq_some_iff.1 g2).1
  have HG := Lib.hid (And.intro G0 (And.intro G1 g2))
  clear G0 G1 g2 X0 X1 X2 hq1 hz hCT
  go_cut [6] (fun p wc => ∃ X : Nat, p = .pointer (some ⟨X, 0, none⟩) ∧ FHead w (.slice a1 toks.length c1) (.slice (some ⟨b, off, none⟩) nodes.length cap) (.int .i64 12) (.slice (some ⟨bk, ok, none⟩) ks.length ck) t X wc)
  case first =>
    go_region_held3 (fun w' => w'.cell? ⟨w.heap.size, 0, none⟩ = some (.slice a1 toks.length c1) ∧ w'.cell? ⟨w.heap.size, 1, none⟩ = some (.slice (some ⟨b, off, none⟩) nodes.length cap) ∧ w'.cell? ⟨w.heap.size + 1 + 1, 2, none⟩ = some (.slice (some ⟨bk, ok, none⟩) ks.length ck) ∧ w'.cell? ⟨bk, ok, none⟩ = some (.int .i64 k0))
      (first | go_keep | exact p3 | exact ⟨(set4_cell w3 w2.heap.size _ _ _ _ (by omega)).trans p3.1, (set4_cell w3 w2.heap.size _ _ _ _ (by omega)).trans p3.2.1, (set4_cell w3 w2.heap.size _ _ _ _ (by omega)).trans p3.2.2.1, (set4_cell w3 w2.heap.size _ _ _ _ (by omega)).trans p3.2.2.2⟩)
      (first | (go_at_call 20; refine (HK'.out _ ?_).mono ?_; (first | exact (Below.refl _ _).drew | exact ((Below.refl _ _).alloc (Nat.le_refl _) _).drew); rintro e w3 ⟨rfl, hq3, hb3⟩; have p3 := And.intro (cell_later hq3 hy0) (And.intro (cell_later hq3 hy1) (And.intro (cell_later hq3 n2) (cell_later hq3 Z3))); try (have hTz := (hb3.block w2.heap.size (by simp)).trans (heap_alloc_new w2 (.cells #[.int .i64 0, .string ⟨#[]⟩, .string ⟨#[]⟩, .int .i64 0] 67)); obtain ⟨tz0, tz1, tz2, tz3, tz4⟩ := ftok0_cells hTz)))
    · have hb3' : Below w.heap.size w w3 := hal3.trans (hq3.mono hal3.size)
      have q0 := (hq3.block w.heap.size (by omega)).trans HG.out.1
      have q1 := (hq3.block (w.heap.size + 1) (by omega)).trans HG.out.2.1
      have q2 := (hq3.block (w.heap.size + 1 + 1) (by omega)).trans HG.out.2.2
      have hz3 := hq3.size
      clear hy0 hy1 n2 Z3 p3
      go_wp2_with fail
      go_meet
      exact ⟨w3.heap.size, rfl, heap_alloc_new w3 (.cells (ftokC t) 67), (Lib.alloc_old w3 _ w.heap.size (by omega)).trans q0, (Lib.alloc_old w3 _ (w.heap.size + 1) (by omega)).trans q1, (Lib.alloc_old w3 _ (w.heap.size + 1 + 1) (by omega)).trans q2, hb3'.alloc hb3'.size _, by omega⟩
    · have hb3' : Below w.heap.size w w3 := hal3.trans (hq3.mono hal3.size)
      have q0 := (hq3.block w.heap.size (by omega)).trans HG.out.1
      have q1 := (hq3.block (w.heap.size + 1) (by omega)).trans HG.out.2.1
      have q2 := (hq3.block (w.heap.size + 1 + 1) (by omega)).trans HG.out.2.2
      obtain ⟨S3, So, _⟩ := store4 hTz (.int .i64 t.kind) (.string ⟨t.lead.toArray⟩) (.string ⟨t.text.toArray⟩) (.int .i64 t.place)
      have hle : w.heap.size ≤ w2.heap.size := by omega
      clear hy0 hy1 n2 Z3 p3 tz0 tz1 tz2 tz3 tz4
      go_wp2_with fail
      go_meet
      exact ⟨w2.heap.size, rfl, S3, (So w.heap.size (by omega)).trans q0, (So (w.heap.size + 1) (by omega)).trans q1, (So (w.heap.size + 1 + 1) (by omega)).trans q2, (((hb3'.setCell hle _).setCell hle _).setCell hle _).setCell hle _, hlt2⟩
  case rest =>
    obtain ⟨X, rfl, hH⟩ := hcut
    obtain ⟨w7, rfl⟩ : ∃ w7 : World, w7 = wc := ⟨_, rfl⟩
    obtain ⟨r0, r1, n0, n2, f2, f3⟩ := hH.cells
    obtain ⟨hl7, hX7⟩ := hH.lt
    have hal7 := hH.2.2.2.2.1
    have hs7 := hal7.size
    have S1 := hH.2.2.1
    have HH := Lib.hid hH
    have hCT := Lib.hid (HT.out.below (hal7.mono hB))
    clear HK HK' HG hal3 hy0 hy1 Z3 hH hlt2
    have hk1c := HKC.out 1 hp1
    rw [hp2] at hk1c
    have k1c := cell_later hal7 hk1c
    have hp1I : (1 : Int) < (ks.length : Int) := by omega
    clear hp2
    go_wp2
    have HF' := Lib.hid ((HF.out w7.drew (hCT.out.below (Below.refl _ _).drew) (show B ≤ w7.heap.size by omega)).mono fun _ _ h => h.r)
    go_still_tail 5, (by kernel_rfl)
    change wpList _ _ _ _ _ w7.drew
    go_wp2_with (go_at_call 7; refine HF'.out.mono ?_)
    rintro e w8 ⟨ae, ce, rfl, hxe, hb8⟩
    have D1 := (hb8.block (w.heap.size + 1) (show w.heap.size + 1 < w7.heap.size by omega)).trans S1
    have hal7d := hal7.drew
    have hs7d : w7.drew.heap.size = w7.heap.size := rfl
    clear r0 r1 n0 n2 f2 f3 S1 k1c hk1c
    obtain ⟨d0, d1, d2, d3, d4, d5, d6⟩ := fCells_all D1
    have dz := fCells_free D1
    go_wp2
    obtain ⟨hE, hb9⟩ := EPostR.store (w0 := w) (b := w.heap.size + 1) hxe hb8 hal7d (by omega) (by omega) (.int .i64 x.op) (.string ⟨x.name.toArray⟩) (.string ⟨x.module.toArray⟩) (.string ⟨x.txt.toArray⟩) (.bool x.yes) (.slice ae x.kids.length ce) (.int .i64 x.at_)
    refine bodyPost_ret (v := .agg #[.int .i64 x.op, .string ⟨x.name.toArray⟩, .string ⟨x.module.toArray⟩, .string ⟨x.txt.toArray⟩, .bool x.yes, .slice ae x.kids.length ce, .int .i64 x.at_]) (by simp [results, Tryz.results7, go_sem, d0, d1, d2, d3, d4, d5, d6]) rfl ?_
    exact ⟨_, _, rfl, hE, hb9⟩

end Go.Proofs.YtdjkibbnkklajaaGreatDoor
