/- The walks of the code that the claim reaches, and the plain laws: ReadW5. No condition of ours. -/
import Derived.Test.YtemkhbmkaalgdaaGreatDoorM17
namespace Go.Proofs.YtemkhbmkaalgdaaGreatDoor
open Go.RowKit Go
set_option maxHeartbeats 2000000 in
set_option maxRecDepth 100000 in
theorem rexpr_name (B : Nat) (tv nv : Value) (toks : List Tok) (nodes : List Nd) (i : Nat) (ks : List Int) (w : World) (h : TreeAt B w (.agg #[tv, nv]) toks nodes) (hB : B ≤ w.heap.size) (hn : nodes[i]? = some ⟨14, -1, ks⟩)(k0 u : Nat) (hk0 : ks[0]? = some (k0 : Int)) (hl0 : nodes[k0]? = some ⟨19, (u : Nat), []⟩) (t : Tok) (hut : toks[u]? = some t) :
    Calls Tryz.prog 31 #[.agg #[tv, nv], .int .i64 i] w (EPost XA (.mk 3 t.text [] 0 [] false [] t.place) w) := by
  obtain ⟨hi, hni⟩ := List.getElem?_eq_some_iff.1 hn
  obtain ⟨hk1, hk2⟩ := List.getElem?_eq_some_iff.1 hk0
  obtain ⟨hi0, hni0⟩ := List.getElem?_eq_some_iff.1 hl0
  have HT := Lib.hid h
  obtain ⟨a1, c1, _, _, e⟩ := h.slices
  obtain ⟨b, off, cap, kv, rfl, hb, x0, x1, x2, hkv⟩ := h.node hi
  obtain ⟨b', off', cap', kv', e', hb', y0, _, _, _⟩ := h.node hi0
  obtain ⟨⟨rfl, rfl⟩, rfl⟩ : (b = b' ∧ off = off') ∧ cap = cap' := by simpa using e'
  obtain ⟨rfl, -⟩ : tv = .slice a1 toks.length c1 ∧ _ := by simpa using e
  rw [hni] at x0 x1 hkv
  rw [hni0] at y0
  simp only at x0 x1 y0 hkv
  obtain ⟨ak, ck, rfl, _, hkf⟩ := hkv.form
  obtain ⟨bk, ok, rfl, hbk, hkc⟩ := hkf (by omega)
  have hz := hkc 0 hk1
  rw [hk2] at hz
  simp only [Nat.add_zero] at hz
  have HKC := Lib.hid hkc
  clear e e' hkv hkf hkc hn hni hni0
  have hal2 := ((Below.refl w.heap.size w).alloc (Nat.le_refl _) (.cells #[.slice a1 toks.length c1, .slice (some ⟨b, off, none⟩) nodes.length cap] 88)).alloc (by simp) (.cells #[.int .i64 0, .string ⟨#[]⟩, .string ⟨#[]⟩, .bool false, .slice none 0 0, .bool false, .slice none 0 0, .int .i64 0] 40)
  have X0 := cell_later hal2 x0
  have X1 := cell_later hal2 x1
  have X2 := cell_later hal2 x2
  have g0 := heap_alloc_new w (.cells #[.slice a1 toks.length c1, .slice (some ⟨b, off, none⟩) nodes.length cap] 88)
  have g1 := heap_alloc_new (w.alloc (.cells #[.slice a1 toks.length c1, .slice (some ⟨b, off, none⟩) nodes.length cap] 88)) (.cells #[.int .i64 0, .string ⟨#[]⟩, .string ⟨#[]⟩, .bool false, .slice none 0 0, .bool false, .slice none 0 0, .int .i64 0] 40)
  have g2 := heap_alloc_new ((w.alloc (.cells #[.slice a1 toks.length c1, .slice (some ⟨b, off, none⟩) nodes.length cap] 88)).alloc (.cells #[.int .i64 0, .string ⟨#[]⟩, .string ⟨#[]⟩, .bool false, .slice none 0 0, .bool false, .slice none 0 0, .int .i64 0] 40)) (.cells #[.int .i64 14, .int .i64 (-1), .slice (some ⟨bk, ok, none⟩) ks.length ck] 85)
  have g3 := heap_alloc_new (((w.alloc (.cells #[.slice a1 toks.length c1, .slice (some ⟨b, off, none⟩) nodes.length cap] 88)).alloc (.cells #[.int .i64 0, .string ⟨#[]⟩, .string ⟨#[]⟩, .bool false, .slice none 0 0, .bool false, .slice none 0 0, .int .i64 0] 40)).alloc (.cells #[.int .i64 14, .int .i64 (-1), .slice (some ⟨bk, ok, none⟩) ks.length ck] 85)) (.cells #[.int .i64 0, .string ⟨#[]⟩, .string ⟨#[]⟩, .int .i64 0] 83)
  have hal4 := (hal2.alloc (by simp <;> omega) (.cells #[.int .i64 14, .int .i64 (-1), .slice (some ⟨bk, ok, none⟩) ks.length ck] 85)).alloc (by simp <;> omega) (.cells #[.int .i64 0, .string ⟨#[]⟩, .string ⟨#[]⟩, .int .i64 0] 83)
  rw [World.size_alloc] at g1
  rw [World.size_alloc, World.size_alloc] at g2
  rw [World.size_alloc, World.size_alloc, World.size_alloc] at g3
  have G0 := (Lib.alloc_old (((w.alloc (.cells #[.slice a1 toks.length c1, .slice (some ⟨b, off, none⟩) nodes.length cap] 88)).alloc (.cells #[.int .i64 0, .string ⟨#[]⟩, .string ⟨#[]⟩, .bool false, .slice none 0 0, .bool false, .slice none 0 0, .int .i64 0] 40)).alloc (.cells #[.int .i64 14, .int .i64 (-1), .slice (some ⟨bk, ok, none⟩) ks.length ck] 85)) (.cells #[.int .i64 0, .string ⟨#[]⟩, .string ⟨#[]⟩, .int .i64 0] 83) w.heap.size (by simp <;> omega)).trans ((Lib.alloc_old ((w.alloc (.cells #[.slice a1 toks.length c1, .slice (some ⟨b, off, none⟩) nodes.length cap] 88)).alloc (.cells #[.int .i64 0, .string ⟨#[]⟩, .string ⟨#[]⟩, .bool false, .slice none 0 0, .bool false, .slice none 0 0, .int .i64 0] 40)) (.cells #[.int .i64 14, .int .i64 (-1), .slice (some ⟨bk, ok, none⟩) ks.length ck] 85) w.heap.size (by simp <;> omega)).trans ((Lib.alloc_old (w.alloc (.cells #[.slice a1 toks.length c1, .slice (some ⟨b, off, none⟩) nodes.length cap] 88)) (.cells #[.int .i64 0, .string ⟨#[]⟩, .string ⟨#[]⟩, .bool false, .slice none 0 0, .bool false, .slice none 0 0, .int .i64 0] 40) w.heap.size (by simp)).trans g0))
  have G1 := (Lib.alloc_old (((w.alloc (.cells #[.slice a1 toks.length c1, .slice (some ⟨b, off, none⟩) nodes.length cap] 88)).alloc (.cells #[.int .i64 0, .string ⟨#[]⟩, .string ⟨#[]⟩, .bool false, .slice none 0 0, .bool false, .slice none 0 0, .int .i64 0] 40)).alloc (.cells #[.int .i64 14, .int .i64 (-1), .slice (some ⟨bk, ok, none⟩) ks.length ck] 85)) (.cells #[.int .i64 0, .string ⟨#[]⟩, .string ⟨#[]⟩, .int .i64 0] 83) (w.heap.size + 1) (by simp <;> omega)).trans ((Lib.alloc_old ((w.alloc (.cells #[.slice a1 toks.length c1, .slice (some ⟨b, off, none⟩) nodes.length cap] 88)).alloc (.cells #[.int .i64 0, .string ⟨#[]⟩, .string ⟨#[]⟩, .bool false, .slice none 0 0, .bool false, .slice none 0 0, .int .i64 0] 40)) (.cells #[.int .i64 14, .int .i64 (-1), .slice (some ⟨bk, ok, none⟩) ks.length ck] 85) (w.heap.size + 1) (by simp)).trans g1)
  have G2 := (Lib.alloc_old (((w.alloc (.cells #[.slice a1 toks.length c1, .slice (some ⟨b, off, none⟩) nodes.length cap] 88)).alloc (.cells #[.int .i64 0, .string ⟨#[]⟩, .string ⟨#[]⟩, .bool false, .slice none 0 0, .bool false, .slice none 0 0, .int .i64 0] 40)).alloc (.cells #[.int .i64 14, .int .i64 (-1), .slice (some ⟨bk, ok, none⟩) ks.length ck] 85)) (.cells #[.int .i64 0, .string ⟨#[]⟩, .string ⟨#[]⟩, .int .i64 0] 83) (w.heap.size + 1 + 1) (by simp)).trans g2
  have hiI : (i : Int) < (nodes.length : Int) := by omega
  have hk0I : (k0 : Int) < (nodes.length : Int) := by omega
  have hkl : (0 : Int) < (ks.length : Int) := by omega
  have hklN : 0 < ks.length := by omega
  have hCT := HT.out
  clear h x0 x1 x2 g0 g1 g2 hal2
  go_enter Tryz.func31, Tryz.ntmps31
  go_wp2
  generalize (((w.alloc _).alloc _).alloc _).alloc _ = w4 at G0 G1 G2 g3 hal4 ⊢
  have r0 : w4.cell? ⟨w.heap.size, 0, none⟩ = some (.slice a1 toks.length c1) := by rw [Lib.cell_of_heap G0]; rfl
  have r1 : w4.cell? ⟨w.heap.size, 1, none⟩ = some (.slice (some ⟨b, off, none⟩) nodes.length cap) := by rw [Lib.cell_of_heap G0]; rfl
  have n0 : w4.cell? ⟨w.heap.size + 1 + 1, 0, none⟩ = some (.int .i64 14) := by rw [Lib.cell_of_heap G2]; rfl
  have n2 : w4.cell? ⟨w.heap.size + 1 + 1, 2, none⟩ = some (.slice (some ⟨bk, ok, none⟩) ks.length ck) := by rw [Lib.cell_of_heap G2]; rfl
  have z4 := cell_later hal4 hz
  have y4 := cell_later hal4 y0
  clear X0 X1 X2
  go_quiet (fail)
  go_wp2
  obtain ⟨w5, hw5⟩ : ∃ w5, w5 = w4.drewN nq := ⟨_, rfl⟩
  have G0' := (show (w4.drewN nq).heap[w.heap.size]? = _ from G0)
  have G1' := (show (w4.drewN nq).heap[w.heap.size + 1]? = _ from G1)
  have G2' := (show (w4.drewN nq).heap[w.heap.size + 1 + 1]? = _ from G2)
  have G3' := (show (w4.drewN nq).heap[w.heap.size + 1 + 1 + 1]? = _ from g3)
  rw [← hw5] at G0' G1' G2' G3' ⊢
  have hal5 : Below w.heap.size w w5 := by rw [hw5]; exact below_drewN hal4 _
  have z5 := cell_later hal5 hz
  clear hw5 G0 G1 G2 g3 r0 r1 n0 n2 z4 y4 hal4
  have r0 : w5.cell? ⟨w.heap.size, 0, none⟩ = some (.slice a1 toks.length c1) := by rw [Lib.cell_of_heap G0']; rfl
  have r1 : w5.cell? ⟨w.heap.size, 1, none⟩ = some (.slice (some ⟨b, off, none⟩) nodes.length cap) := by rw [Lib.cell_of_heap G0']; rfl
  have n2 : w5.cell? ⟨w.heap.size + 1 + 1, 2, none⟩ = some (.slice (some ⟨bk, ok, none⟩) ks.length ck) := by rw [Lib.cell_of_heap G2']; rfl
  go_still_tail 5, (by kernel_rfl)
  change wpList _ _ _ _ _ w5.drew
  obtain ⟨hu, hut'⟩ := List.getElem?_eq_some_iff.1 hut
  have hK := (rtoken_any B _ _ toks nodes k0 u w5.drew (hCT.below ((hal5.mono hB).drew)) (by have := hal5.size; show B ≤ w5.heap.size; omega) hl0 hu)
  rw [hut'] at hK
  unfold tokVal strV at hK
  have HK := Lib.hid hK
  clear hK hut hut' z5 r0 r1 n2 hz y0
  go_wp2_with (go_at_call 29; refine HK.out.mono ?_)
  rintro e w6 ⟨rfl, hb6⟩
  have G0 := (hb6.block w.heap.size (Array.getElem?_eq_some_iff.1 G0').1).trans G0'
  have G1 := (hb6.block (w.heap.size + 1) (Array.getElem?_eq_some_iff.1 G1').1).trans G1'
  have G2 := (hb6.block (w.heap.size + 1 + 1) (Array.getElem?_eq_some_iff.1 G2').1).trans G2'
  have G3 := (hb6.block (w.heap.size + 1 + 1 + 1) (Array.getElem?_eq_some_iff.1 G3').1).trans G3'
  have hal6 := hal5.drew.trans (hb6.mono (show w.heap.size ≤ w5.drew.heap.size from hal5.size))
  have t0 : w6.cell? ⟨w.heap.size + 1 + 1 + 1, 0, none⟩ = some (.int .i64 0) := by rw [Lib.cell_of_heap G3]; rfl
  have t1 : w6.cell? ⟨w.heap.size + 1 + 1 + 1, 1, none⟩ = some (.string ⟨#[]⟩) := by rw [Lib.cell_of_heap G3]; rfl
  have t2 : w6.cell? ⟨w.heap.size + 1 + 1 + 1, 2, none⟩ = some (.string ⟨#[]⟩) := by rw [Lib.cell_of_heap G3]; rfl
  have t3 : w6.cell? ⟨w.heap.size + 1 + 1 + 1, 3, none⟩ = some (.int .i64 0) := by rw [Lib.cell_of_heap G3]; rfl
  have tz : ∀ j, w6.frozen? ⟨w.heap.size + 1 + 1 + 1, j, none⟩ = false := by intro j; simp [World.frozen?, G3]
  clear G0' G1' G2' G3' hb6 hal5
  obtain ⟨S3, So, Sz⟩ := store4 G3 (.int .i64 t.kind) (.string ⟨t.lead.toArray⟩) (.string ⟨t.text.toArray⟩) (.int .i64 t.place)
  have hal7 : Below w.heap.size w ((((w6.setCell ⟨w.heap.size + 1 + 1 + 1, 0, none⟩ (.int .i64 t.kind)).setCell ⟨w.heap.size + 1 + 1 + 1, 1, none⟩ (.string ⟨t.lead.toArray⟩)).setCell ⟨w.heap.size + 1 + 1 + 1, 2, none⟩ (.string ⟨t.text.toArray⟩)).setCell ⟨w.heap.size + 1 + 1 + 1, 3, none⟩ (.int .i64 t.place)) := (((hal6.setCell (by show _ ≤ w.heap.size + 1 + 1 + 1; omega) _).setCell (by show _ ≤ w.heap.size + 1 + 1 + 1; omega) _).setCell (by show _ ≤ w.heap.size + 1 + 1 + 1; omega) _).setCell (by show _ ≤ w.heap.size + 1 + 1 + 1; omega) _
  have S0 := (So w.heap.size (by omega)).trans G0
  have S1 := (So (w.heap.size + 1) (by omega)).trans G1
  have S2 := (So (w.heap.size + 1 + 1) (by omega)).trans G2
  clear G0 G1 G2 G3 So Sz hal6
  go_upto_region 5 with (fail)
  generalize (((w6.setCell _ _).setCell _ _).setCell _ _).setCell _ _ = w7 at S0 S1 S2 S3 hal7 ⊢
  have r0 : w7.cell? ⟨w.heap.size, 0, none⟩ = some (.slice a1 toks.length c1) := by rw [Lib.cell_of_heap S0]; rfl
  have r1 : w7.cell? ⟨w.heap.size, 1, none⟩ = some (.slice (some ⟨b, off, none⟩) nodes.length cap) := by rw [Lib.cell_of_heap S0]; rfl
  have n0 : w7.cell? ⟨w.heap.size + 1 + 1, 0, none⟩ = some (.int .i64 14) := by rw [Lib.cell_of_heap S2]; rfl
  have f2 : w7.cell? ⟨w.heap.size + 1 + 1 + 1, 2, none⟩ = some (.string ⟨t.text.toArray⟩) := by rw [Lib.cell_of_heap S3]; rfl
  have f3 : w7.cell? ⟨w.heap.size + 1 + 1 + 1, 3, none⟩ = some (.int .i64 t.place) := by rw [Lib.cell_of_heap S3]; rfl
  have hs7 := hal7.size
  have hl7 := (Array.getElem?_eq_some_iff.1 S3).1
  have d0 : w7.cell? ⟨w.heap.size + 1, 0, none⟩ = some (.int .i64 0) := by rw [Lib.cell_of_heap S1]; rfl
  have d1 : w7.cell? ⟨w.heap.size + 1, 1, none⟩ = some (.string ⟨#[]⟩) := by rw [Lib.cell_of_heap S1]; rfl
  have d2 : w7.cell? ⟨w.heap.size + 1, 2, none⟩ = some (.string ⟨#[]⟩) := by rw [Lib.cell_of_heap S1]; rfl
  have d3 : w7.cell? ⟨w.heap.size + 1, 3, none⟩ = some (.bool false) := by rw [Lib.cell_of_heap S1]; rfl
  have d4 : w7.cell? ⟨w.heap.size + 1, 4, none⟩ = some (.slice none 0 0) := by rw [Lib.cell_of_heap S1]; rfl
  have d5 : w7.cell? ⟨w.heap.size + 1, 5, none⟩ = some (.bool false) := by rw [Lib.cell_of_heap S1]; rfl
  have d6 : w7.cell? ⟨w.heap.size + 1, 6, none⟩ = some (.slice none 0 0) := by rw [Lib.cell_of_heap S1]; rfl
  have d7 : w7.cell? ⟨w.heap.size + 1, 7, none⟩ = some (.int .i64 0) := by rw [Lib.cell_of_heap S1]; rfl
  have dz : ∀ j, w7.frozen? ⟨w.heap.size + 1, j, none⟩ = false := by intro j; simp [World.frozen?, S1]
  go_wp2
  have hE : EAt XA (fun b => w.heap.size ≤ b) (set8 w7 (w.heap.size + 1) (.int .i64 3) (.string ⟨t.text.toArray⟩) (.string ⟨#[]⟩) (.bool false) (.slice none 0 0) (.bool false) (.slice none 0 0) (.int .i64 t.place)) (.slice none 0 0) (.slice none 0 0) (.mk 3 t.text [] 0 [] false [] t.place) := by
    rw [EAt]
    exact ⟨NumAt.zero _ _, [], SlP.nil _ _ _, by rw [EAtL]⟩
  refine bodyPost_ret (v := .agg #[.int .i64 3, .string ⟨t.text.toArray⟩, .string ⟨#[]⟩, .bool false, .slice none 0 0, .bool false, .slice none 0 0, .int .i64 t.place]) (by simp [results, Tryz.results31, go_sem, d0, d1, d2, d3, d4, d5, d6, d7]) rfl ?_
  exact ⟨_, _, rfl, hE, set8_below hal7 (by omega) _ _ _ _ _ _ _ _⟩
set_option maxHeartbeats 2000000 in
set_option maxRecDepth 100000 in
theorem rexpr_res (B : Nat) (tv nv : Value) (toks : List Tok) (nodes : List Nd) (i : Nat) (ks : List Int) (w : World) (h : TreeAt B w (.agg #[tv, nv]) toks nodes) (hB : B ≤ w.heap.size) (hn : nodes[i]? = some ⟨17, -1, ks⟩)(k0 u : Nat) (hk0 : ks[0]? = some (k0 : Int)) (hl0 : nodes[k0]? = some ⟨19, (u : Nat), []⟩) (t : Tok) (hut : toks[u]? = some t) :
    Calls Tryz.prog 31 #[.agg #[tv, nv], .int .i64 i] w (EPost XA (.mk 4 [] [] 0 [] false [] t.place) w) := by
  obtain ⟨hi, hni⟩ := List.getElem?_eq_some_iff.1 hn
  obtain ⟨hk1, hk2⟩ := List.getElem?_eq_some_iff.1 hk0
  obtain ⟨hi0, hni0⟩ := List.getElem?_eq_some_iff.1 hl0
  have HT := Lib.hid h
  obtain ⟨a1, c1, _, _, e⟩ := h.slices
  obtain ⟨b, off, cap, kv, rfl, hb, x0, x1, x2, hkv⟩ := h.node hi
  obtain ⟨b', off', cap', kv', e', hb', y0, _, _, _⟩ := h.node hi0
  obtain ⟨⟨rfl, rfl⟩, rfl⟩ : (b = b' ∧ off = off') ∧ cap = cap' := by simpa using e'
  obtain ⟨rfl, -⟩ : tv = .slice a1 toks.length c1 ∧ _ := by simpa using e
  rw [hni] at x0 x1 hkv
  rw [hni0] at y0
  simp only at x0 x1 y0 hkv
  obtain ⟨ak, ck, rfl, _, hkf⟩ := hkv.form
  obtain ⟨bk, ok, rfl, hbk, hkc⟩ := hkf (by omega)
  have hz := hkc 0 hk1
  rw [hk2] at hz
  simp only [Nat.add_zero] at hz
  have HKC := Lib.hid hkc
  clear e e' hkv hkf hkc hn hni hni0
  have hal2 := ((Below.refl w.heap.size w).alloc (Nat.le_refl _) (.cells #[.slice a1 toks.length c1, .slice (some ⟨b, off, none⟩) nodes.length cap] 88)).alloc (by simp) (.cells #[.int .i64 0, .string ⟨#[]⟩, .string ⟨#[]⟩, .bool false, .slice none 0 0, .bool false, .slice none 0 0, .int .i64 0] 40)
  have X0 := cell_later hal2 x0
  have X1 := cell_later hal2 x1
  have X2 := cell_later hal2 x2
  have g0 := heap_alloc_new w (.cells #[.slice a1 toks.length c1, .slice (some ⟨b, off, none⟩) nodes.length cap] 88)
  have g1 := heap_alloc_new (w.alloc (.cells #[.slice a1 toks.length c1, .slice (some ⟨b, off, none⟩) nodes.length cap] 88)) (.cells #[.int .i64 0, .string ⟨#[]⟩, .string ⟨#[]⟩, .bool false, .slice none 0 0, .bool false, .slice none 0 0, .int .i64 0] 40)
  have g2 := heap_alloc_new ((w.alloc (.cells #[.slice a1 toks.length c1, .slice (some ⟨b, off, none⟩) nodes.length cap] 88)).alloc (.cells #[.int .i64 0, .string ⟨#[]⟩, .string ⟨#[]⟩, .bool false, .slice none 0 0, .bool false, .slice none 0 0, .int .i64 0] 40)) (.cells #[.int .i64 17, .int .i64 (-1), .slice (some ⟨bk, ok, none⟩) ks.length ck] 85)
  have g3 := heap_alloc_new (((w.alloc (.cells #[.slice a1 toks.length c1, .slice (some ⟨b, off, none⟩) nodes.length cap] 88)).alloc (.cells #[.int .i64 0, .string ⟨#[]⟩, .string ⟨#[]⟩, .bool false, .slice none 0 0, .bool false, .slice none 0 0, .int .i64 0] 40)).alloc (.cells #[.int .i64 17, .int .i64 (-1), .slice (some ⟨bk, ok, none⟩) ks.length ck] 85)) (.cells #[.int .i64 0, .string ⟨#[]⟩, .string ⟨#[]⟩, .int .i64 0] 83)
  have hal4 := (hal2.alloc (by simp <;> omega) (.cells #[.int .i64 17, .int .i64 (-1), .slice (some ⟨bk, ok, none⟩) ks.length ck] 85)).alloc (by simp <;> omega) (.cells #[.int .i64 0, .string ⟨#[]⟩, .string ⟨#[]⟩, .int .i64 0] 83)
  rw [World.size_alloc] at g1
  rw [World.size_alloc, World.size_alloc] at g2
  rw [World.size_alloc, World.size_alloc, World.size_alloc] at g3
  have G0 := (Lib.alloc_old (((w.alloc (.cells #[.slice a1 toks.length c1, .slice (some ⟨b, off, none⟩) nodes.length cap] 88)).alloc (.cells #[.int .i64 0, .string ⟨#[]⟩, .string ⟨#[]⟩, .bool false, .slice none 0 0, .bool false, .slice none 0 0, .int .i64 0] 40)).alloc (.cells #[.int .i64 17, .int .i64 (-1), .slice (some ⟨bk, ok, none⟩) ks.length ck] 85)) (.cells #[.int .i64 0, .string ⟨#[]⟩, .string ⟨#[]⟩, .int .i64 0] 83) w.heap.size (by simp <;> omega)).trans ((Lib.alloc_old ((w.alloc (.cells #[.slice a1 toks.length c1, .slice (some ⟨b, off, none⟩) nodes.length cap] 88)).alloc (.cells #[.int .i64 0, .string ⟨#[]⟩, .string ⟨#[]⟩, .bool false, .slice none 0 0, .bool false, .slice none 0 0, .int .i64 0] 40)) (.cells #[.int .i64 17, .int .i64 (-1), .slice (some ⟨bk, ok, none⟩) ks.length ck] 85) w.heap.size (by simp <;> omega)).trans ((Lib.alloc_old (w.alloc (.cells #[.slice a1 toks.length c1, .slice (some ⟨b, off, none⟩) nodes.length cap] 88)) (.cells #[.int .i64 0, .string ⟨#[]⟩, .string ⟨#[]⟩, .bool false, .slice none 0 0, .bool false, .slice none 0 0, .int .i64 0] 40) w.heap.size (by simp)).trans g0))
  have G1 := (Lib.alloc_old (((w.alloc (.cells #[.slice a1 toks.length c1, .slice (some ⟨b, off, none⟩) nodes.length cap] 88)).alloc (.cells #[.int .i64 0, .string ⟨#[]⟩, .string ⟨#[]⟩, .bool false, .slice none 0 0, .bool false, .slice none 0 0, .int .i64 0] 40)).alloc (.cells #[.int .i64 17, .int .i64 (-1), .slice (some ⟨bk, ok, none⟩) ks.length ck] 85)) (.cells #[.int .i64 0, .string ⟨#[]⟩, .string ⟨#[]⟩, .int .i64 0] 83) (w.heap.size + 1) (by simp <;> omega)).trans ((Lib.alloc_old ((w.alloc (.cells #[.slice a1 toks.length c1, .slice (some ⟨b, off, none⟩) nodes.length cap] 88)).alloc (.cells #[.int .i64 0, .string ⟨#[]⟩, .string ⟨#[]⟩, .bool false, .slice none 0 0, .bool false, .slice none 0 0, .int .i64 0] 40)) (.cells #[.int .i64 17, .int .i64 (-1), .slice (some ⟨bk, ok, none⟩) ks.length ck] 85) (w.heap.size + 1) (by simp)).trans g1)
  have G2 := (Lib.alloc_old (((w.alloc (.cells #[.slice a1 toks.length c1, .slice (some ⟨b, off, none⟩) nodes.length cap] 88)).alloc (.cells #[.int .i64 0, .string ⟨#[]⟩, .string ⟨#[]⟩, .bool false, .slice none 0 0, .bool false, .slice none 0 0, .int .i64 0] 40)).alloc (.cells #[.int .i64 17, .int .i64 (-1), .slice (some ⟨bk, ok, none⟩) ks.length ck] 85)) (.cells #[.int .i64 0, .string ⟨#[]⟩, .string ⟨#[]⟩, .int .i64 0] 83) (w.heap.size + 1 + 1) (by simp)).trans g2
  have hiI : (i : Int) < (nodes.length : Int) := by omega
  have hk0I : (k0 : Int) < (nodes.length : Int) := by omega
  have hkl : (0 : Int) < (ks.length : Int) := by omega
  have hklN : 0 < ks.length := by omega
  have hCT := HT.out
  clear h x0 x1 x2 g0 g1 g2 hal2
  go_enter Tryz.func31, Tryz.ntmps31
  go_wp2
  generalize (((w.alloc _).alloc _).alloc _).alloc _ = w4 at G0 G1 G2 g3 hal4 ⊢
  have r0 : w4.cell? ⟨w.heap.size, 0, none⟩ = some (.slice a1 toks.length c1) := by rw [Lib.cell_of_heap G0]; rfl
  have r1 : w4.cell? ⟨w.heap.size, 1, none⟩ = some (.slice (some ⟨b, off, none⟩) nodes.length cap) := by rw [Lib.cell_of_heap G0]; rfl
  have n0 : w4.cell? ⟨w.heap.size + 1 + 1, 0, none⟩ = some (.int .i64 17) := by rw [Lib.cell_of_heap G2]; rfl
  have n2 : w4.cell? ⟨w.heap.size + 1 + 1, 2, none⟩ = some (.slice (some ⟨bk, ok, none⟩) ks.length ck) := by rw [Lib.cell_of_heap G2]; rfl
  have z4 := cell_later hal4 hz
  have y4 := cell_later hal4 y0
  clear X0 X1 X2
  go_quiet (fail)
  go_wp2
  obtain ⟨w5, hw5⟩ : ∃ w5, w5 = w4.drewN nq := ⟨_, rfl⟩
  have G0' := (show (w4.drewN nq).heap[w.heap.size]? = _ from G0)
  have G1' := (show (w4.drewN nq).heap[w.heap.size + 1]? = _ from G1)
  have G2' := (show (w4.drewN nq).heap[w.heap.size + 1 + 1]? = _ from G2)
  have G3' := (show (w4.drewN nq).heap[w.heap.size + 1 + 1 + 1]? = _ from g3)
  rw [← hw5] at G0' G1' G2' G3' ⊢
  have hal5 : Below w.heap.size w w5 := by rw [hw5]; exact below_drewN hal4 _
  have z5 := cell_later hal5 hz
  clear hw5 G0 G1 G2 g3 r0 r1 n0 n2 z4 y4 hal4
  have r0 : w5.cell? ⟨w.heap.size, 0, none⟩ = some (.slice a1 toks.length c1) := by rw [Lib.cell_of_heap G0']; rfl
  have r1 : w5.cell? ⟨w.heap.size, 1, none⟩ = some (.slice (some ⟨b, off, none⟩) nodes.length cap) := by rw [Lib.cell_of_heap G0']; rfl
  have n2 : w5.cell? ⟨w.heap.size + 1 + 1, 2, none⟩ = some (.slice (some ⟨bk, ok, none⟩) ks.length ck) := by rw [Lib.cell_of_heap G2']; rfl
  go_still_tail 5, (by kernel_rfl)
  change wpList _ _ _ _ _ w5.drew
  obtain ⟨hu, hut'⟩ := List.getElem?_eq_some_iff.1 hut
  have hK := (rtoken_any B _ _ toks nodes k0 u w5.drew (hCT.below ((hal5.mono hB).drew)) (by have := hal5.size; show B ≤ w5.heap.size; omega) hl0 hu)
  rw [hut'] at hK
  unfold tokVal strV at hK
  have HK := Lib.hid hK
  clear hK hut hut' z5 r0 r1 n2 hz y0
  go_wp2_with (go_at_call 29; refine HK.out.mono ?_)
  rintro e w6 ⟨rfl, hb6⟩
  have G0 := (hb6.block w.heap.size (Array.getElem?_eq_some_iff.1 G0').1).trans G0'
  have G1 := (hb6.block (w.heap.size + 1) (Array.getElem?_eq_some_iff.1 G1').1).trans G1'
  have G2 := (hb6.block (w.heap.size + 1 + 1) (Array.getElem?_eq_some_iff.1 G2').1).trans G2'
  have G3 := (hb6.block (w.heap.size + 1 + 1 + 1) (Array.getElem?_eq_some_iff.1 G3').1).trans G3'
  have hal6 := hal5.drew.trans (hb6.mono (show w.heap.size ≤ w5.drew.heap.size from hal5.size))
  have t0 : w6.cell? ⟨w.heap.size + 1 + 1 + 1, 0, none⟩ = some (.int .i64 0) := by rw [Lib.cell_of_heap G3]; rfl
  have t1 : w6.cell? ⟨w.heap.size + 1 + 1 + 1, 1, none⟩ = some (.string ⟨#[]⟩) := by rw [Lib.cell_of_heap G3]; rfl
  have t2 : w6.cell? ⟨w.heap.size + 1 + 1 + 1, 2, none⟩ = some (.string ⟨#[]⟩) := by rw [Lib.cell_of_heap G3]; rfl
  have t3 : w6.cell? ⟨w.heap.size + 1 + 1 + 1, 3, none⟩ = some (.int .i64 0) := by rw [Lib.cell_of_heap G3]; rfl
  have tz : ∀ j, w6.frozen? ⟨w.heap.size + 1 + 1 + 1, j, none⟩ = false := by intro j; simp [World.frozen?, G3]
  clear G0' G1' G2' G3' hb6 hal5
  obtain ⟨S3, So, Sz⟩ := store4 G3 (.int .i64 t.kind) (.string ⟨t.lead.toArray⟩) (.string ⟨t.text.toArray⟩) (.int .i64 t.place)
  have hal7 : Below w.heap.size w ((((w6.setCell ⟨w.heap.size + 1 + 1 + 1, 0, none⟩ (.int .i64 t.kind)).setCell ⟨w.heap.size + 1 + 1 + 1, 1, none⟩ (.string ⟨t.lead.toArray⟩)).setCell ⟨w.heap.size + 1 + 1 + 1, 2, none⟩ (.string ⟨t.text.toArray⟩)).setCell ⟨w.heap.size + 1 + 1 + 1, 3, none⟩ (.int .i64 t.place)) := (((hal6.setCell (by show _ ≤ w.heap.size + 1 + 1 + 1; omega) _).setCell (by show _ ≤ w.heap.size + 1 + 1 + 1; omega) _).setCell (by show _ ≤ w.heap.size + 1 + 1 + 1; omega) _).setCell (by show _ ≤ w.heap.size + 1 + 1 + 1; omega) _
  have S0 := (So w.heap.size (by omega)).trans G0
  have S1 := (So (w.heap.size + 1) (by omega)).trans G1
  have S2 := (So (w.heap.size + 1 + 1) (by omega)).trans G2
  clear G0 G1 G2 G3 So Sz hal6
  go_upto_region 5 with (fail)
  generalize (((w6.setCell _ _).setCell _ _).setCell _ _).setCell _ _ = w7 at S0 S1 S2 S3 hal7 ⊢
  have r0 : w7.cell? ⟨w.heap.size, 0, none⟩ = some (.slice a1 toks.length c1) := by rw [Lib.cell_of_heap S0]; rfl
  have r1 : w7.cell? ⟨w.heap.size, 1, none⟩ = some (.slice (some ⟨b, off, none⟩) nodes.length cap) := by rw [Lib.cell_of_heap S0]; rfl
  have n0 : w7.cell? ⟨w.heap.size + 1 + 1, 0, none⟩ = some (.int .i64 17) := by rw [Lib.cell_of_heap S2]; rfl
  have f2 : w7.cell? ⟨w.heap.size + 1 + 1 + 1, 2, none⟩ = some (.string ⟨t.text.toArray⟩) := by rw [Lib.cell_of_heap S3]; rfl
  have f3 : w7.cell? ⟨w.heap.size + 1 + 1 + 1, 3, none⟩ = some (.int .i64 t.place) := by rw [Lib.cell_of_heap S3]; rfl
  have hs7 := hal7.size
  have hl7 := (Array.getElem?_eq_some_iff.1 S3).1
  have d0 : w7.cell? ⟨w.heap.size + 1, 0, none⟩ = some (.int .i64 0) := by rw [Lib.cell_of_heap S1]; rfl
  have d1 : w7.cell? ⟨w.heap.size + 1, 1, none⟩ = some (.string ⟨#[]⟩) := by rw [Lib.cell_of_heap S1]; rfl
  have d2 : w7.cell? ⟨w.heap.size + 1, 2, none⟩ = some (.string ⟨#[]⟩) := by rw [Lib.cell_of_heap S1]; rfl
  have d3 : w7.cell? ⟨w.heap.size + 1, 3, none⟩ = some (.bool false) := by rw [Lib.cell_of_heap S1]; rfl
  have d4 : w7.cell? ⟨w.heap.size + 1, 4, none⟩ = some (.slice none 0 0) := by rw [Lib.cell_of_heap S1]; rfl
  have d5 : w7.cell? ⟨w.heap.size + 1, 5, none⟩ = some (.bool false) := by rw [Lib.cell_of_heap S1]; rfl
  have d6 : w7.cell? ⟨w.heap.size + 1, 6, none⟩ = some (.slice none 0 0) := by rw [Lib.cell_of_heap S1]; rfl
  have d7 : w7.cell? ⟨w.heap.size + 1, 7, none⟩ = some (.int .i64 0) := by rw [Lib.cell_of_heap S1]; rfl
  have dz : ∀ j, w7.frozen? ⟨w.heap.size + 1, j, none⟩ = false := by intro j; simp [World.frozen?, S1]
  go_wp2
  have hE : EAt XA (fun b => w.heap.size ≤ b) (set8 w7 (w.heap.size + 1) (.int .i64 4) (.string ⟨#[]⟩) (.string ⟨#[]⟩) (.bool false) (.slice none 0 0) (.bool false) (.slice none 0 0) (.int .i64 t.place)) (.slice none 0 0) (.slice none 0 0) (.mk 4 [] [] 0 [] false [] t.place) := by
    rw [EAt]
    exact ⟨NumAt.zero _ _, [], SlP.nil _ _ _, by rw [EAtL]⟩
  refine bodyPost_ret (v := .agg #[.int .i64 4, .string ⟨#[]⟩, .string ⟨#[]⟩, .bool false, .slice none 0 0, .bool false, .slice none 0 0, .int .i64 t.place]) (by simp [results, Tryz.results31, go_sem, d0, d1, d2, d3, d4, d5, d6, d7]) rfl ?_
  exact ⟨_, _, rfl, hE, set8_below hal7 (by omega) _ _ _ _ _ _ _ _⟩
set_option maxHeartbeats 2000000 in
set_option maxRecDepth 100000 in
theorem rexpr_true (B : Nat) (tv nv : Value) (toks : List Tok) (nodes : List Nd) (i : Nat) (ks : List Int) (w : World) (h : TreeAt B w (.agg #[tv, nv]) toks nodes) (hB : B ≤ w.heap.size) (hn : nodes[i]? = some ⟨16, -1, ks⟩)(k0 u : Nat) (hk0 : ks[0]? = some (k0 : Int)) (hl0 : nodes[k0]? = some ⟨19, (u : Nat), []⟩) (t : Tok) (hut : toks[u]? = some t) (htx : t.text = [116, 114, 117, 101]) :
    Calls Tryz.prog 31 #[.agg #[tv, nv], .int .i64 i] w (EPost XA (.mk 2 [] [] 0 [] true [] t.place) w) := by
  have HTX := Lib.hid htx
  clear htx
  obtain ⟨hi, hni⟩ := List.getElem?_eq_some_iff.1 hn
  obtain ⟨hk1, hk2⟩ := List.getElem?_eq_some_iff.1 hk0
  obtain ⟨hi0, hni0⟩ := List.getElem?_eq_some_iff.1 hl0
  have HT := Lib.hid h
  obtain ⟨a1, c1, _, _, e⟩ := h.slices
  obtain ⟨b, off, cap, kv, rfl, hb, x0, x1, x2, hkv⟩ := h.node hi
  obtain ⟨b', off', cap', kv', e', hb', y0, _, _, _⟩ := h.node hi0
  obtain ⟨⟨rfl, rfl⟩, rfl⟩ : (b = b' ∧ off = off') ∧ cap = cap' := by simpa using e'
  obtain ⟨rfl, -⟩ : tv = .slice a1 toks.length c1 ∧ _ := by simpa using e
  rw [hni] at x0 x1 hkv
  rw [hni0] at y0
  simp only at x0 x1 y0 hkv
  obtain ⟨ak, ck, rfl, _, hkf⟩ := hkv.form
  obtain ⟨bk, ok, rfl, hbk, hkc⟩ := hkf (by omega)
  have hz := hkc 0 hk1
  rw [hk2] at hz
  simp only [Nat.add_zero] at hz
  have HKC := Lib.hid hkc
  clear e e' hkv hkf hkc hn hni hni0
  have hal2 := ((Below.refl w.heap.size w).alloc (Nat.le_refl _) (.cells #[.slice a1 toks.length c1, .slice (some ⟨b, off, none⟩) nodes.length cap] 88)).alloc (by simp) (.cells #[.int .i64 0, .string ⟨#[]⟩, .string ⟨#[]⟩, .bool false, .slice none 0 0, .bool false, .slice none 0 0, .int .i64 0] 40)
  have X0 := cell_later hal2 x0
  have X1 := cell_later hal2 x1
  have X2 := cell_later hal2 x2
  have g0 := heap_alloc_new w (.cells #[.slice a1 toks.length c1, .slice (some ⟨b, off, none⟩) nodes.length cap] 88)
  have g1 := heap_alloc_new (w.alloc (.cells #[.slice a1 toks.length c1, .slice (some ⟨b, off, none⟩) nodes.length cap] 88)) (.cells #[.int .i64 0, .string ⟨#[]⟩, .string ⟨#[]⟩, .bool false, .slice none 0 0, .bool false, .slice none 0 0, .int .i64 0] 40)
  have g2 := heap_alloc_new ((w.alloc (.cells #[.slice a1 toks.length c1, .slice (some ⟨b, off, none⟩) nodes.length cap] 88)).alloc (.cells #[.int .i64 0, .string ⟨#[]⟩, .string ⟨#[]⟩, .bool false, .slice none 0 0, .bool false, .slice none 0 0, .int .i64 0] 40)) (.cells #[.int .i64 16, .int .i64 (-1), .slice (some ⟨bk, ok, none⟩) ks.length ck] 85)
  have g3 := heap_alloc_new (((w.alloc (.cells #[.slice a1 toks.length c1, .slice (some ⟨b, off, none⟩) nodes.length cap] 88)).alloc (.cells #[.int .i64 0, .string ⟨#[]⟩, .string ⟨#[]⟩, .bool false, .slice none 0 0, .bool false, .slice none 0 0, .int .i64 0] 40)).alloc (.cells #[.int .i64 16, .int .i64 (-1), .slice (some ⟨bk, ok, none⟩) ks.length ck] 85)) (.cells #[.int .i64 0, .string ⟨#[]⟩, .string ⟨#[]⟩, .int .i64 0] 83)
  have hal4 := (hal2.alloc (by simp <;> omega) (.cells #[.int .i64 16, .int .i64 (-1), .slice (some ⟨bk, ok, none⟩) ks.length ck] 85)).alloc (by simp <;> omega) (.cells #[.int .i64 0, .string ⟨#[]⟩, .string ⟨#[]⟩, .int .i64 0] 83)
  rw [World.size_alloc] at g1
  rw [World.size_alloc, World.size_alloc] at g2
  rw [World.size_alloc, World.size_alloc, World.size_alloc] at g3
  have G0 := (Lib.alloc_old (((w.alloc (.cells #[.slice a1 toks.length c1, .slice (some ⟨b, off, none⟩) nodes.length cap] 88)).alloc (.cells #[.int .i64 0, .string ⟨#[]⟩, .string ⟨#[]⟩, .bool false, .slice none 0 0, .bool false, .slice none 0 0, .int .i64 0] 40)).alloc (.cells #[.int .i64 16, .int .i64 (-1), .slice (some ⟨bk, ok, none⟩) ks.length ck] 85)) (.cells #[.int .i64 0, .string ⟨#[]⟩, .string ⟨#[]⟩, .int .i64 0] 83) w.heap.size (by simp <;> omega)).trans ((Lib.alloc_old ((w.alloc (.cells #[.slice a1 toks.length c1, .slice (some ⟨b, off, none⟩) nodes.length cap] 88)).alloc (.cells #[.int .i64 0, .string ⟨#[]⟩, .string ⟨#[]⟩, .bool false, .slice none 0 0, .bool false, .slice none 0 0, .int .i64 0] 40)) (.cells #[.int .i64 16, .int .i64 (-1), .slice (some ⟨bk, ok, none⟩) ks.length ck] 85) w.heap.size (by simp <;> omega)).trans ((Lib.alloc_old (w.alloc (.cells #[.slice a1 toks.length c1, .slice (some ⟨b, off, none⟩) nodes.length cap] 88)) (.cells #[.int .i64 0, .string ⟨#[]⟩, .string ⟨#[]⟩, .bool false, .slice none 0 0, .bool false, .slice none 0 0, .int .i64 0] 40) w.heap.size (by simp)).trans g0))
  have G1 := (Lib.alloc_old (((w.alloc (.cells #[.slice a1 toks.length c1, .slice (some ⟨b, off, none⟩) nodes.length cap] 88)).alloc (.cells #[.int .i64 0, .string ⟨#[]⟩, .string ⟨#[]⟩, .bool false, .slice none 0 0, .bool false, .slice none 0 0, .int .i64 0] 40)).alloc (.cells #[.int .i64 16, .int .i64 (-1), .slice (some ⟨bk, ok, none⟩) ks.length ck] 85)) (.cells #[.int .i64 0, .string ⟨#[]⟩, .string ⟨#[]⟩, .int .i64 0] 83) (w.heap.size + 1) (by simp <;> omega)).trans ((Lib.alloc_old ((w.alloc (.cells #[.slice a1 toks.length c1, .slice (some ⟨b, off, none⟩) nodes.length cap] 88)).alloc (.cells #[.int .i64 0, .string ⟨#[]⟩, .string ⟨#[]⟩, .bool false, .slice none 0 0, .bool false, .slice none 0 0, .int .i64 0] 40)) (.cells #[.int .i64 16, .int .i64 (-1), .slice (some ⟨bk, ok, none⟩) ks.length ck] 85) (w.heap.size + 1) (by simp)).trans g1)
  have G2 := (Lib.alloc_old (((w.alloc (.cells #[.slice a1 toks.length c1, .slice (some ⟨b, off, none⟩) nodes.length cap] 88)).alloc (.cells #[.int .i64 0, .string ⟨#[]⟩, .string ⟨#[]⟩, .bool false, .slice none 0 0, .bool false, .slice none 0 0, .int .i64 0] 40)).alloc (.cells #[.int .i64 16, .int .i64 (-1), .slice (some ⟨bk, ok, none⟩) ks.length ck] 85)) (.cells #[.int .i64 0, .string ⟨#[]⟩, .string ⟨#[]⟩, .int .i64 0] 83) (w.heap.size + 1 + 1) (by simp)).trans g2
  have hiI : (i : Int) < (nodes.length : Int) := by omega
  have hk0I : (k0 : Int) < (nodes.length : Int) := by omega
  have hkl : (0 : Int) < (ks.length : Int) := by omega
  have hklN : 0 < ks.length := by omega
  have hCT := HT.out
  clear h x0 x1 x2 g0 g1 g2 hal2
  go_enter Tryz.func31, Tryz.ntmps31
  go_wp2
  generalize (((w.alloc _).alloc _).alloc _).alloc _ = w4 at G0 G1 G2 g3 hal4 ⊢
  have r0 : w4.cell? ⟨w.heap.size, 0, none⟩ = some (.slice a1 toks.length c1) := by rw [Lib.cell_of_heap G0]; rfl
  have r1 : w4.cell? ⟨w.heap.size, 1, none⟩ = some (.slice (some ⟨b, off, none⟩) nodes.length cap) := by rw [Lib.cell_of_heap G0]; rfl
  have n0 : w4.cell? ⟨w.heap.size + 1 + 1, 0, none⟩ = some (.int .i64 16) := by rw [Lib.cell_of_heap G2]; rfl
  have n2 : w4.cell? ⟨w.heap.size + 1 + 1, 2, none⟩ = some (.slice (some ⟨bk, ok, none⟩) ks.length ck) := by rw [Lib.cell_of_heap G2]; rfl
  have z4 := cell_later hal4 hz
  have y4 := cell_later hal4 y0
  clear X0 X1 X2
  go_quiet (fail)
  go_wp2
  obtain ⟨w5, hw5⟩ : ∃ w5, w5 = w4.drewN nq := ⟨_, rfl⟩
  have G0' := (show (w4.drewN nq).heap[w.heap.size]? = _ from G0)
  have G1' := (show (w4.drewN nq).heap[w.heap.size + 1]? = _ from G1)
  have G2' := (show (w4.drewN nq).heap[w.heap.size + 1 + 1]? = _ from G2)
  have G3' := (show (w4.drewN nq).heap[w.heap.size + 1 + 1 + 1]? = _ from g3)
  rw [← hw5] at G0' G1' G2' G3' ⊢
  have hal5 : Below w.heap.size w w5 := by rw [hw5]; exact below_drewN hal4 _
  have z5 := cell_later hal5 hz
  clear hw5 G0 G1 G2 g3 r0 r1 n0 n2 z4 y4 hal4
  have r0 : w5.cell? ⟨w.heap.size, 0, none⟩ = some (.slice a1 toks.length c1) := by rw [Lib.cell_of_heap G0']; rfl
  have r1 : w5.cell? ⟨w.heap.size, 1, none⟩ = some (.slice (some ⟨b, off, none⟩) nodes.length cap) := by rw [Lib.cell_of_heap G0']; rfl
  have n2 : w5.cell? ⟨w.heap.size + 1 + 1, 2, none⟩ = some (.slice (some ⟨bk, ok, none⟩) ks.length ck) := by rw [Lib.cell_of_heap G2']; rfl
  go_still_tail 5, (by kernel_rfl)
  change wpList _ _ _ _ _ w5.drew
  obtain ⟨hu, hut'⟩ := List.getElem?_eq_some_iff.1 hut
  have hK := (rtoken_any B _ _ toks nodes k0 u w5.drew (hCT.below ((hal5.mono hB).drew)) (by have := hal5.size; show B ≤ w5.heap.size; omega) hl0 hu)
  rw [hut'] at hK
  unfold tokVal strV at hK
  have HK := Lib.hid hK
  clear hK hut hut' z5 r0 r1 n2 hz y0
  go_wp2_with (go_at_call 29; refine HK.out.mono ?_)
  rintro e w6 ⟨rfl, hb6⟩
  have G0 := (hb6.block w.heap.size (Array.getElem?_eq_some_iff.1 G0').1).trans G0'
  have G1 := (hb6.block (w.heap.size + 1) (Array.getElem?_eq_some_iff.1 G1').1).trans G1'
  have G2 := (hb6.block (w.heap.size + 1 + 1) (Array.getElem?_eq_some_iff.1 G2').1).trans G2'
  have G3 := (hb6.block (w.heap.size + 1 + 1 + 1) (Array.getElem?_eq_some_iff.1 G3').1).trans G3'
  have hal6 := hal5.drew.trans (hb6.mono (show w.heap.size ≤ w5.drew.heap.size from hal5.size))
  have t0 : w6.cell? ⟨w.heap.size + 1 + 1 + 1, 0, none⟩ = some (.int .i64 0) := by rw [Lib.cell_of_heap G3]; rfl
  have t1 : w6.cell? ⟨w.heap.size + 1 + 1 + 1, 1, none⟩ = some (.string ⟨#[]⟩) := by rw [Lib.cell_of_heap G3]; rfl
  have t2 : w6.cell? ⟨w.heap.size + 1 + 1 + 1, 2, none⟩ = some (.string ⟨#[]⟩) := by rw [Lib.cell_of_heap G3]; rfl
  have t3 : w6.cell? ⟨w.heap.size + 1 + 1 + 1, 3, none⟩ = some (.int .i64 0) := by rw [Lib.cell_of_heap G3]; rfl
  have tz : ∀ j, w6.frozen? ⟨w.heap.size + 1 + 1 + 1, j, none⟩ = false := by intro j; simp [World.frozen?, G3]
  clear G0' G1' G2' G3' hb6 hal5
  obtain ⟨S3, So, Sz⟩ := store4 G3 (.int .i64 t.kind) (.string ⟨t.lead.toArray⟩) (.string ⟨t.text.toArray⟩) (.int .i64 t.place)
  have hal7 : Below w.heap.size w ((((w6.setCell ⟨w.heap.size + 1 + 1 + 1, 0, none⟩ (.int .i64 t.kind)).setCell ⟨w.heap.size + 1 + 1 + 1, 1, none⟩ (.string ⟨t.lead.toArray⟩)).setCell ⟨w.heap.size + 1 + 1 + 1, 2, none⟩ (.string ⟨t.text.toArray⟩)).setCell ⟨w.heap.size + 1 + 1 + 1, 3, none⟩ (.int .i64 t.place)) := (((hal6.setCell (by show _ ≤ w.heap.size + 1 + 1 + 1; omega) _).setCell (by show _ ≤ w.heap.size + 1 + 1 + 1; omega) _).setCell (by show _ ≤ w.heap.size + 1 + 1 + 1; omega) _).setCell (by show _ ≤ w.heap.size + 1 + 1 + 1; omega) _
  have S0 := (So w.heap.size (by omega)).trans G0
  have S1 := (So (w.heap.size + 1) (by omega)).trans G1
  have S2 := (So (w.heap.size + 1 + 1) (by omega)).trans G2
  clear G0 G1 G2 G3 So Sz hal6
  go_upto_region 5 with (fail)
  generalize (((w6.setCell _ _).setCell _ _).setCell _ _).setCell _ _ = w7 at S0 S1 S2 S3 hal7 ⊢
  have r0 : w7.cell? ⟨w.heap.size, 0, none⟩ = some (.slice a1 toks.length c1) := by rw [Lib.cell_of_heap S0]; rfl
  have r1 : w7.cell? ⟨w.heap.size, 1, none⟩ = some (.slice (some ⟨b, off, none⟩) nodes.length cap) := by rw [Lib.cell_of_heap S0]; rfl
  have n0 : w7.cell? ⟨w.heap.size + 1 + 1, 0, none⟩ = some (.int .i64 16) := by rw [Lib.cell_of_heap S2]; rfl
  have f2 : w7.cell? ⟨w.heap.size + 1 + 1 + 1, 2, none⟩ = some (.string ⟨#[116, 114, 117, 101]⟩) := by rw [Lib.cell_of_heap S3]; rw [HTX.out]; rfl
  have f3 : w7.cell? ⟨w.heap.size + 1 + 1 + 1, 3, none⟩ = some (.int .i64 t.place) := by rw [Lib.cell_of_heap S3]; rfl
  have hs7 := hal7.size
  have hl7 := (Array.getElem?_eq_some_iff.1 S3).1
  have d0 : w7.cell? ⟨w.heap.size + 1, 0, none⟩ = some (.int .i64 0) := by rw [Lib.cell_of_heap S1]; rfl
  have d1 : w7.cell? ⟨w.heap.size + 1, 1, none⟩ = some (.string ⟨#[]⟩) := by rw [Lib.cell_of_heap S1]; rfl
  have d2 : w7.cell? ⟨w.heap.size + 1, 2, none⟩ = some (.string ⟨#[]⟩) := by rw [Lib.cell_of_heap S1]; rfl
  have d3 : w7.cell? ⟨w.heap.size + 1, 3, none⟩ = some (.bool false) := by rw [Lib.cell_of_heap S1]; rfl
  have d4 : w7.cell? ⟨w.heap.size + 1, 4, none⟩ = some (.slice none 0 0) := by rw [Lib.cell_of_heap S1]; rfl
  have d5 : w7.cell? ⟨w.heap.size + 1, 5, none⟩ = some (.bool false) := by rw [Lib.cell_of_heap S1]; rfl
  have d6 : w7.cell? ⟨w.heap.size + 1, 6, none⟩ = some (.slice none 0 0) := by rw [Lib.cell_of_heap S1]; rfl
  have d7 : w7.cell? ⟨w.heap.size + 1, 7, none⟩ = some (.int .i64 0) := by rw [Lib.cell_of_heap S1]; rfl
  have dz : ∀ j, w7.frozen? ⟨w.heap.size + 1, j, none⟩ = false := by intro j; simp [World.frozen?, S1]
  go_wp2
  have hE : EAt XA (fun b => w.heap.size ≤ b) (set8 w7 (w.heap.size + 1) (.int .i64 2) (.string ⟨#[]⟩) (.string ⟨#[]⟩) (.bool false) (.slice none 0 0) (.bool true) (.slice none 0 0) (.int .i64 t.place)) (.slice none 0 0) (.slice none 0 0) (.mk 2 [] [] 0 [] true [] t.place) := by
    rw [EAt]
    exact ⟨NumAt.zero _ _, [], SlP.nil _ _ _, by rw [EAtL]⟩
  refine bodyPost_ret (v := .agg #[.int .i64 2, .string ⟨#[]⟩, .string ⟨#[]⟩, .bool false, .slice none 0 0, .bool true, .slice none 0 0, .int .i64 t.place]) (by simp [results, Tryz.results31, go_sem, d0, d1, d2, d3, d4, d5, d6, d7]) rfl ?_
  exact ⟨_, _, rfl, hE, set8_below hal7 (by omega) _ _ _ _ _ _ _ _⟩
set_option maxHeartbeats 2000000 in
set_option maxRecDepth 100000 in
theorem rexpr_false (B : Nat) (tv nv : Value) (toks : List Tok) (nodes : List Nd) (i : Nat) (ks : List Int) (w : World) (h : TreeAt B w (.agg #[tv, nv]) toks nodes) (hB : B ≤ w.heap.size) (hn : nodes[i]? = some ⟨16, -1, ks⟩)(k0 u : Nat) (hk0 : ks[0]? = some (k0 : Int)) (hl0 : nodes[k0]? = some ⟨19, (u : Nat), []⟩) (t : Tok) (hut : toks[u]? = some t) (htx : t.text = [102, 97, 108, 115, 101]) :
    Calls Tryz.prog 31 #[.agg #[tv, nv], .int .i64 i] w (EPost XA (.mk 2 [] [] 0 [] false [] t.place) w) := by
  have HTX := Lib.hid htx
  clear htx
  obtain ⟨hi, hni⟩ := List.getElem?_eq_some_iff.1 hn
  obtain ⟨hk1, hk2⟩ := List.getElem?_eq_some_iff.1 hk0
  obtain ⟨hi0, hni0⟩ := List.getElem?_eq_some_iff.1 hl0
  have HT := Lib.hid h
  obtain ⟨a1, c1, _, _, e⟩ := h.slices
  obtain ⟨b, off, cap, kv, rfl, hb, x0, x1, x2, hkv⟩ := h.node hi
  obtain ⟨b', off', cap', kv', e', hb', y0, _, _, _⟩ := h.node hi0
  obtain ⟨⟨rfl, rfl⟩, rfl⟩ : (b = b' ∧ off = off') ∧ cap = cap' := by simpa using e'
  obtain ⟨rfl, -⟩ : tv = .slice a1 toks.length c1 ∧ _ := by simpa using e
  rw [hni] at x0 x1 hkv
  rw [hni0] at y0
  simp only at x0 x1 y0 hkv
  obtain ⟨ak, ck, rfl, _, hkf⟩ := hkv.form
  obtain ⟨bk, ok, rfl, hbk, hkc⟩ := hkf (by omega)
  have hz := hkc 0 hk1
  rw [hk2] at hz
  simp only [Nat.add_zero] at hz
  have HKC := Lib.hid hkc
  clear e e' hkv hkf hkc hn hni hni0
  have hal2 := ((Below.refl w.heap.size w).alloc (Nat.le_refl _) (.cells #[.slice a1 toks.length c1, .slice (some ⟨b, off, none⟩) nodes.length cap] 88)).alloc (by simp) (.cells #[.int .i64 0, .string ⟨#[]⟩, .string ⟨#[]⟩, .bool false, .slice none 0 0, .bool false, .slice none 0 0, .int .i64 0] 40)
  have X0 := cell_later hal2 x0
  have X1 := cell_later hal2 x1
  have X2 := cell_later hal2 x2
  have g0 := heap_alloc_new w (.cells #[.slice a1 toks.length c1, .slice (some ⟨b, off, none⟩) nodes.length cap] 88)
  have g1 := heap_alloc_new (w.alloc (.cells #[.slice a1 toks.length c1, .slice (some ⟨b, off, none⟩) nodes.length cap] 88)) (.cells #[.int .i64 0, .string ⟨#[]⟩, .string ⟨#[]⟩, .bool false, .slice none 0 0, .bool false, .slice none 0 0, .int .i64 0] 40)
  have g2 := heap_alloc_new ((w.alloc (.cells #[.slice a1 toks.length c1, .slice (some ⟨b, off, none⟩) nodes.length cap] 88)).alloc (.cells #[.int .i64 0, .string ⟨#[]⟩, .string ⟨#[]⟩, .bool false, .slice none 0 0, .bool false, .slice none 0 0, .int .i64 0] 40)) (.cells #[.int .i64 16, .int .i64 (-1), .slice (some ⟨bk, ok, none⟩) ks.length ck] 85)
  have g3 := heap_alloc_new (((w.alloc (.cells #[.slice a1 toks.length c1, .slice (some ⟨b, off, none⟩) nodes.length cap] 88)).alloc (.cells #[.int .i64 0, .string ⟨#[]⟩, .string ⟨#[]⟩, .bool false, .slice none 0 0, .bool false, .slice none 0 0, .int .i64 0] 40)).alloc (.cells #[.int .i64 16, .int .i64 (-1), .slice (some ⟨bk, ok, none⟩) ks.length ck] 85)) (.cells #[.int .i64 0, .string ⟨#[]⟩, .string ⟨#[]⟩, .int .i64 0] 83)
  have hal4 := (hal2.alloc (by simp <;> omega) (.cells #[.int .i64 16, .int .i64 (-1), .slice (some ⟨bk, ok, none⟩) ks.length ck] 85)).alloc (by simp <;> omega) (.cells #[.int .i64 0, .string ⟨#[]⟩, .string ⟨#[]⟩, .int .i64 0] 83)
  rw [World.size_alloc] at g1
  rw [World.size_alloc, World.size_alloc] at g2
  rw [World.size_alloc, World.size_alloc, World.size_alloc] at g3
  have G0 := (Lib.alloc_old (((w.alloc (.cells #[.slice a1 toks.length c1, .slice (some ⟨b, off, none⟩) nodes.length cap] 88)).alloc (.cells #[.int .i64 0, .string ⟨#[]⟩, .string ⟨#[]⟩, .bool false, .slice none 0 0, .bool false, .slice none 0 0, .int .i64 0] 40)).alloc (.cells #[.int .i64 16, .int .i64 (-1), .slice (some ⟨bk, ok, none⟩) ks.length ck] 85)) (.cells #[.int .i64 0, .string ⟨#[]⟩, .string ⟨#[]⟩, .int .i64 0] 83) w.heap.size (by simp <;> omega)).trans ((Lib.alloc_old ((w.alloc (.cells #[.slice a1 toks.length c1, .slice (some ⟨b, off, none⟩) nodes.length cap] 88)).alloc (.cells #[.int .i64 0, .string ⟨#[]⟩, .string ⟨#[]⟩, .bool false, .slice none 0 0, .bool false, .slice none 0 0, .int .i64 0] 40)) (.cells #[.int .i64 16, .int .i64 (-1), .slice (some ⟨bk, ok, none⟩) ks.length ck] 85) w.heap.size (by simp <;> omega)).trans ((Lib.alloc_old (w.alloc (.cells #[.slice a1 toks.length c1, .slice (some ⟨b, off, none⟩) nodes.length cap] 88)) (.cells #[.int .i64 0, .string ⟨#[]⟩, .string ⟨#[]⟩, .bool false, .slice none 0 0, .bool false, .slice none 0 0, .int .i64 0] 40) w.heap.size (by simp)).trans g0))
  have G1 := (Lib.alloc_old (((w.alloc (.cells #[.slice a1 toks.length c1, .slice (some ⟨b, off, none⟩) nodes.length cap] 88)).alloc (.cells #[.int .i64 0, .string ⟨#[]⟩, .string ⟨#[]⟩, .bool false, .slice none 0 0, .bool false, .slice none 0 0, .int .i64 0] 40)).alloc (.cells #[.int .i64 16, .int .i64 (-1), .slice (some ⟨bk, ok, none⟩) ks.length ck] 85)) (.cells #[.int .i64 0, .string ⟨#[]⟩, .string ⟨#[]⟩, .int .i64 0] 83) (w.heap.size + 1) (by simp <;> omega)).trans ((Lib.alloc_old ((w.alloc (.cells #[.slice a1 toks.length c1, .slice (some ⟨b, off, none⟩) nodes.length cap] 88)).alloc (.cells #[.int .i64 0, .string ⟨#[]⟩, .string ⟨#[]⟩, .bool false, .slice none 0 0, .bool false, .slice none 0 0, .int .i64 0] 40)) (.cells #[.int .i64 16, .int .i64 (-1), .slice (some ⟨bk, ok, none⟩) ks.length ck] 85) (w.heap.size + 1) (by simp)).trans g1)
  have G2 := (Lib.alloc_old (((w.alloc (.cells #[.slice a1 toks.length c1, .slice (some ⟨b, off, none⟩) nodes.length cap] 88)).alloc (.cells #[.int .i64 0, .string ⟨#[]⟩, .string ⟨#[]⟩, .bool false, .slice none 0 0, .bool false, .slice none 0 0, .int .i64 0] 40)).alloc (.cells #[.int .i64 16, .int .i64 (-1), .slice (some ⟨bk, ok, none⟩) ks.length ck] 85)) (.cells #[.int .i64 0, .string ⟨#[]⟩, .string ⟨#[]⟩, .int .i64 0] 83) (w.heap.size + 1 + 1) (by simp)).trans g2
  have hiI : (i : Int) < (nodes.length : Int) := by omega
  have hk0I : (k0 : Int) < (nodes.length : Int) := by omega
  have hkl : (0 : Int) < (ks.length : Int) := by omega
  have hklN : 0 < ks.length := by omega
  have hCT := HT.out
  clear h x0 x1 x2 g0 g1 g2 hal2
  go_enter Tryz.func31, Tryz.ntmps31
  go_wp2
  generalize (((w.alloc _).alloc _).alloc _).alloc _ = w4 at G0 G1 G2 g3 hal4 ⊢
  have r0 : w4.cell? ⟨w.heap.size, 0, none⟩ = some (.slice a1 toks.length c1) := by rw [Lib.cell_of_heap G0]; rfl
  have r1 : w4.cell? ⟨w.heap.size, 1, none⟩ = some (.slice (some ⟨b, off, none⟩) nodes.length cap) := by rw [Lib.cell_of_heap G0]; rfl
  have n0 : w4.cell? ⟨w.heap.size + 1 + 1, 0, none⟩ = some (.int .i64 16) := by rw [Lib.cell_of_heap G2]; rfl
  have n2 : w4.cell? ⟨w.heap.size + 1 + 1, 2, none⟩ = some (.slice (some ⟨bk, ok, none⟩) ks.length ck) := by rw [Lib.cell_of_heap G2]; rfl
  have z4 := cell_later hal4 hz
  have y4 := cell_later hal4 y0
  clear X0 X1 X2
  go_quiet (fail)
  go_wp2
  obtain ⟨w5, hw5⟩ : ∃ w5, w5 = w4.drewN nq := ⟨_, rfl⟩
  have G0' := (show (w4.drewN nq).heap[w.heap.size]? = _ from G0)
  have G1' := (show (w4.drewN nq).heap[w.heap.size + 1]? = _ from G1)
  have G2' := (show (w4.drewN nq).heap[w.heap.size + 1 + 1]? = _ from G2)
  have G3' := (show (w4.drewN nq).heap[w.heap.size + 1 + 1 + 1]? = _ from g3)
  rw [← hw5] at G0' G1' G2' G3' ⊢
  have hal5 : Below w.heap.size w w5 := by rw [hw5]; exact below_drewN hal4 _
  have z5 := cell_later hal5 hz
  clear hw5 G0 G1 G2 g3 r0 r1 n0 n2 z4 y4 hal4
  have r0 : w5.cell? ⟨w.heap.size, 0, none⟩ = some (.slice a1 toks.length c1) := by rw [Lib.cell_of_heap G0']; rfl
  have r1 : w5.cell? ⟨w.heap.size, 1, none⟩ = some (.slice (some ⟨b, off, none⟩) nodes.length cap) := by rw [Lib.cell_of_heap G0']; rfl
  have n2 : w5.cell? ⟨w.heap.size + 1 + 1, 2, none⟩ = some (.slice (some ⟨bk, ok, none⟩) ks.length ck) := by rw [Lib.cell_of_heap G2']; rfl
  go_still_tail 5, (by kernel_rfl)
  change wpList _ _ _ _ _ w5.drew
  obtain ⟨hu, hut'⟩ := List.getElem?_eq_some_iff.1 hut
  have hK := (rtoken_any B _ _ toks nodes k0 u w5.drew (hCT.below ((hal5.mono hB).drew)) (by have := hal5.size; show B ≤ w5.heap.size; omega) hl0 hu)
  rw [hut'] at hK
  unfold tokVal strV at hK
  have HK := Lib.hid hK
  clear hK hut hut' z5 r0 r1 n2 hz y0
  go_wp2_with (go_at_call 29; refine HK.out.mono ?_)
  rintro e w6 ⟨rfl, hb6⟩
  have G0 := (hb6.block w.heap.size (Array.getElem?_eq_some_iff.1 G0').1).trans G0'
  have G1 := (hb6.block (w.heap.size + 1) (Array.getElem?_eq_some_iff.1 G1').1).trans G1'
  have G2 := (hb6.block (w.heap.size + 1 + 1) (Array.getElem?_eq_some_iff.1 G2').1).trans G2'
  have G3 := (hb6.block (w.heap.size + 1 + 1 + 1) (Array.getElem?_eq_some_iff.1 G3').1).trans G3'
  have hal6 := hal5.drew.trans (hb6.mono (show w.heap.size ≤ w5.drew.heap.size from hal5.size))
  have t0 : w6.cell? ⟨w.heap.size + 1 + 1 + 1, 0, none⟩ = some (.int .i64 0) := by rw [Lib.cell_of_heap G3]; rfl
  have t1 : w6.cell? ⟨w.heap.size + 1 + 1 + 1, 1, none⟩ = some (.string ⟨#[]⟩) := by rw [Lib.cell_of_heap G3]; rfl
  have t2 : w6.cell? ⟨w.heap.size + 1 + 1 + 1, 2, none⟩ = some (.string ⟨#[]⟩) := by rw [Lib.cell_of_heap G3]; rfl
  have t3 : w6.cell? ⟨w.heap.size + 1 + 1 + 1, 3, none⟩ = some (.int .i64 0) := by rw [Lib.cell_of_heap G3]; rfl
  have tz : ∀ j, w6.frozen? ⟨w.heap.size + 1 + 1 + 1, j, none⟩ = false := by intro j; simp [World.frozen?, G3]
  clear G0' G1' G2' G3' hb6 hal5
  obtain ⟨S3, So, Sz⟩ := store4 G3 (.int .i64 t.kind) (.string ⟨t.lead.toArray⟩) (.string ⟨t.text.toArray⟩) (.int .i64 t.place)
  have hal7 : Below w.heap.size w ((((w6.setCell ⟨w.heap.size + 1 + 1 + 1, 0, none⟩ (.int .i64 t.kind)).setCell ⟨w.heap.size + 1 + 1 + 1, 1, none⟩ (.string ⟨t.lead.toArray⟩)).setCell ⟨w.heap.size + 1 + 1 + 1, 2, none⟩ (.string ⟨t.text.toArray⟩)).setCell ⟨w.heap.size + 1 + 1 + 1, 3, none⟩ (.int .i64 t.place)) := (((hal6.setCell (by show _ ≤ w.heap.size + 1 + 1 + 1; omega) _).setCell (by show _ ≤ w.heap.size + 1 + 1 + 1; omega) _).setCell (by show _ ≤ w.heap.size + 1 + 1 + 1; omega) _).setCell (by show _ ≤ w.heap.size + 1 + 1 + 1; omega) _
  have S0 := (So w.heap.size (by omega)).trans G0
  have S1 := (So (w.heap.size + 1) (by omega)).trans G1
  have S2 := (So (w.heap.size + 1 + 1) (by omega)).trans G2
  clear G0 G1 G2 G3 So Sz hal6
  go_upto_region 5 with (fail)
  generalize (((w6.setCell _ _).setCell _ _).setCell _ _).setCell _ _ = w7 at S0 S1 S2 S3 hal7 ⊢
  have r0 : w7.cell? ⟨w.heap.size, 0, none⟩ = some (.slice a1 toks.length c1) := by rw [Lib.cell_of_heap S0]; rfl
  have r1 : w7.cell? ⟨w.heap.size, 1, none⟩ = some (.slice (some ⟨b, off, none⟩) nodes.length cap) := by rw [Lib.cell_of_heap S0]; rfl
  have n0 : w7.cell? ⟨w.heap.size + 1 + 1, 0, none⟩ = some (.int .i64 16) := by rw [Lib.cell_of_heap S2]; rfl
  have f2 : w7.cell? ⟨w.heap.size + 1 + 1 + 1, 2, none⟩ = some (.string ⟨#[102, 97, 108, 115, 101]⟩) := by rw [Lib.cell_of_heap S3]; rw [HTX.out]; rfl
  have f3 : w7.cell? ⟨w.heap.size + 1 + 1 + 1, 3, none⟩ = some (.int .i64 t.place) := by rw [Lib.cell_of_heap S3]; rfl
  have hs7 := hal7.size
  have hl7 := (Array.getElem?_eq_some_iff.1 S3).1
  have d0 : w7.cell? ⟨w.heap.size + 1, 0, none⟩ = some (.int .i64 0) := by rw [Lib.cell_of_heap S1]; rfl
  have d1 : w7.cell? ⟨w.heap.size + 1, 1, none⟩ = some (.string ⟨#[]⟩) := by rw [Lib.cell_of_heap S1]; rfl
  have d2 : w7.cell? ⟨w.heap.size + 1, 2, none⟩ = some (.string ⟨#[]⟩) := by rw [Lib.cell_of_heap S1]; rfl
  have d3 : w7.cell? ⟨w.heap.size + 1, 3, none⟩ = some (.bool false) := by rw [Lib.cell_of_heap S1]; rfl
  have d4 : w7.cell? ⟨w.heap.size + 1, 4, none⟩ = some (.slice none 0 0) := by rw [Lib.cell_of_heap S1]; rfl
  have d5 : w7.cell? ⟨w.heap.size + 1, 5, none⟩ = some (.bool false) := by rw [Lib.cell_of_heap S1]; rfl
  have d6 : w7.cell? ⟨w.heap.size + 1, 6, none⟩ = some (.slice none 0 0) := by rw [Lib.cell_of_heap S1]; rfl
  have d7 : w7.cell? ⟨w.heap.size + 1, 7, none⟩ = some (.int .i64 0) := by rw [Lib.cell_of_heap S1]; rfl
  have dz : ∀ j, w7.frozen? ⟨w.heap.size + 1, j, none⟩ = false := by intro j; simp [World.frozen?, S1]
  go_wp2
  have hE : EAt XA (fun b => w.heap.size ≤ b) (set8 w7 (w.heap.size + 1) (.int .i64 2) (.string ⟨#[]⟩) (.string ⟨#[]⟩) (.bool false) (.slice none 0 0) (.bool false) (.slice none 0 0) (.int .i64 t.place)) (.slice none 0 0) (.slice none 0 0) (.mk 2 [] [] 0 [] false [] t.place) := by
    rw [EAt]
    exact ⟨NumAt.zero _ _, [], SlP.nil _ _ _, by rw [EAtL]⟩
  refine bodyPost_ret (v := .agg #[.int .i64 2, .string ⟨#[]⟩, .string ⟨#[]⟩, .bool false, .slice none 0 0, .bool false, .slice none 0 0, .int .i64 t.place]) (by simp [results, Tryz.results31, go_sem, d0, d1, d2, d3, d4, d5, d6, d7]) rfl ?_
  exact ⟨_, _, rfl, hE, set8_below hal7 (by omega) _ _ _ _ _ _ _ _⟩
end Go.Proofs.YtemkhbmkaalgdaaGreatDoor
