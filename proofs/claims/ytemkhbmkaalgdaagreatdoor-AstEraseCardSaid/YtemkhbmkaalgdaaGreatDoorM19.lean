/- The walks of the code that the claim reaches, and the plain laws: ReadW7. No condition of ours. -/
import Derived.Test.YtemkhbmkaalgdaaGreatDoorM17
import Derived.Great.BuildSlice
import Derived.Deep.WholeRow
namespace Go.Proofs.YtemkhbmkaalgdaaGreatDoor
open Go.RowKit Go
def binV : Array Value := (binL.map fun x => Value.string ⟨x.toArray⟩).toArray
def binAt (k : Nat) : ByteArray := ⟨(binL.getD k []).toArray⟩
set_option maxHeartbeats 400000 in
set_option maxRecDepth 100000 in
theorem binSigns_any (w : World) : Calls Tryz.prog 71 #[] w fun e w' => e = .returned (.agg binV) ∧ Below w.heap.size w w' := by
  go_enter Tryz.func71, Tryz.ntmps71
  apply wp_seq_k
  intro K0 hK0
  have HK := Lib.hid hK0
  clear hK0
  go_wp2
  apply HK.out
  apply wp_seq_k
  intro K1 hK1
  apply wp_region_lit
  refine wpList_buildTo rfl 134 _ rfl (some 1) rfl binV (by kernel_rfl) ?_
  refine wpList_store_rowTo rfl 134 _ _ rfl rfl w.heap.size binV rfl rfl 134 _ (heap_alloc_new _ _) (by kernel_rfl) (by decide) (by kernel_rfl) ?_
  rw [World.setRow_alloc_new]
  apply wpList_nil
  apply hK1
  go_wp2
  refine bodyPost_ret (v := .agg binV) (results_cell_row rfl _ _ w.heap.size 134 _ (0, 0) _ rfl (heap_alloc_new _ _) Tryz.underlying134 rfl (by kernel_rfl)) rfl ⟨rfl, (Below.refl _ _).alloc (Nat.le_refl _) _⟩
theorem bin_index : ∀ k : Nat, k < 14 → ∀ w : World, (Instr.index 134 (.agg binV) (.int .i64 k)).run Tryz.prog w = .ok (.string (binAt k)) w
  | 0, _ => fun _ => by kernel_rfl
  | 1, _ => fun _ => by kernel_rfl
  | 2, _ => fun _ => by kernel_rfl
  | 3, _ => fun _ => by kernel_rfl
  | 4, _ => fun _ => by kernel_rfl
  | 5, _ => fun _ => by kernel_rfl
  | 6, _ => fun _ => by kernel_rfl
  | 7, _ => fun _ => by kernel_rfl
  | 8, _ => fun _ => by kernel_rfl
  | 9, _ => fun _ => by kernel_rfl
  | 10, _ => fun _ => by kernel_rfl
  | 11, _ => fun _ => by kernel_rfl
  | 12, _ => fun _ => by kernel_rfl
  | 13, _ => fun _ => by kernel_rfl
  | n + 14, h => absurd h (by omega)
theorem bin_nodup : ∀ j, j < 14 → ∀ k, k < 14 → binL.getD j [] = binL.getD k [] → j = k := by decide
theorem binAt_list (k : Nat) : (binAt k).toList = binL.getD k [] := by rw [Go.ByteArray.toList_eq]; rfl
theorem bin_ne (j k : Nat) (hj : j < 14) (hk : k < 14) (h : j ≠ k) : ((binAt j).toList == (binAt k).toList) = false := by
  rw [← Bool.not_eq_true, beq_iff_eq, binAt_list, binAt_list]
  exact fun q => h (bin_nodup j hj k hk q)
theorem bin_same (k : Nat) : ((binAt k).toList == (binAt k).toList) = true := by rw [beq_iff_eq]
theorem binL_at {x : List UInt8} (h : x ∈ binL) : binL.idxOf x < 14 ∧ (ByteArray.mk x.toArray) = binAt (binL.idxOf x) := by
  have h1 : binL.idxOf x < 14 := List.idxOf_lt_length_of_mem h
  refine ⟨h1, ?_⟩
  unfold binAt
  have h2 : binL.getD (binL.idxOf x) [] = x := by
    rw [List.getD_eq_getElem?_getD, List.getElem?_eq_getElem (List.idxOf_lt_length_of_mem h), Option.getD_some, List.getElem_idxOf]
  rw [h2]
theorem set4_cell (w : World) (b : Nat) (v0 v1 v2 v3 : Value) {k j : Nat} (h : k ≠ b) : ((((w.setCell ⟨b, 0, none⟩ v0).setCell ⟨b, 1, none⟩ v1).setCell ⟨b, 2, none⟩ v2).setCell ⟨b, 3, none⟩ v3).cell? ⟨k, j, none⟩ = w.cell? ⟨k, j, none⟩ := by
  refine World.cell?_of_block (a := ⟨k, j, none⟩) ?_
  show ((((w.setCell ⟨b, 0, none⟩ v0).setCell ⟨b, 1, none⟩ v1).setCell ⟨b, 2, none⟩ v2).setCell ⟨b, 3, none⟩ v3).heap[k]? = w.heap[k]?
  rw [heap_setCell_other _ _ _ _ h, heap_setCell_other _ _ _ _ h, heap_setCell_other _ _ _ _ h, heap_setCell_other _ _ _ _ h]
theorem tok0_cells {w : World} {b : Nat} (h : w.heap[b]? = some (.cells #[.int .i64 0, .string ⟨#[]⟩, .string ⟨#[]⟩, .int .i64 0] 83 (0, 0))) :
    w.cell? ⟨b, 0, none⟩ = some (.int .i64 0) ∧ w.cell? ⟨b, 1, none⟩ = some (.string ⟨#[]⟩) ∧ w.cell? ⟨b, 2, none⟩ = some (.string ⟨#[]⟩) ∧ w.cell? ⟨b, 3, none⟩ = some (.int .i64 0) ∧ ∀ j, w.frozen? ⟨b, j, none⟩ = false :=
  ⟨by rw [Lib.cell_of_heap h]; rfl, by rw [Lib.cell_of_heap h]; rfl, by rw [Lib.cell_of_heap h]; rfl, by rw [Lib.cell_of_heap h]; rfl, by intro j; simp [World.frozen?, h]⟩
set_option maxHeartbeats 2000000 in
set_option maxRecDepth 100000 in
theorem rbinary_any (pes : List PE) (B : Nat) (tv nv : Value) (toks : List Tok) (nodes : List Nd) (i : Nat) (ks : List Int) (w : World) (h : TreeAt B w (.agg #[tv, nv]) toks nodes) (hB : B ≤ w.heap.size) (hn : nodes[i]? = some ⟨10, -1, ks⟩)
    (k1 u1 : Nat) (hq1 : ks[1]? = some (k1 : Int)) (hl1 : nodes[k1]? = some ⟨19, (u1 : Nat), []⟩) (tk1 : Tok) (hut1 : toks[u1]? = some tk1) (htx : tk1.text ∈ binL)
    (hM : ∀ (op at_ : Nat) (W : World), TreeAt B W (.agg #[tv, nv]) toks nodes → B ≤ W.heap.size → Calls Tryz.prog 51 #[.agg #[tv, nv], .int .i64 op, .int .i64 at_, .int .i64 i] W (EPost XA (.mk op [] [] 0 [] false pes at_) W)) :
    Calls Tryz.prog 49 #[.agg #[tv, nv], .int .i64 i] w (EPost XA (.mk (7 + binL.idxOf tk1.text) [] [] 0 [] false pes tk1.place) w) := by
  have HM := Lib.hid hM
  obtain ⟨hm14, hmt⟩ := binL_at htx
  obtain ⟨hu1, hut1'⟩ := List.getElem?_eq_some_iff.1 hut1
  obtain ⟨hp1, hp2⟩ := List.getElem?_eq_some_iff.1 hq1
  have HK := Lib.hid (fun W hT hW => rtoken_any B tv nv toks nodes k1 u1 W hT hW hl1 hu1)
  rw [hut1'] at HK
  unfold tokVal strV at HK
  rw [hmt] at HK
  generalize binL.idxOf tk1.text = m at hm14 HK ⊢
  obtain ⟨N, hN⟩ : ∃ N, 7 + m = N := ⟨_, rfl⟩
  rw [hN]
  have HN := Lib.hid hN
  clear hN
  obtain ⟨hi, hni⟩ := List.getElem?_eq_some_iff.1 hn
  have HT := Lib.hid h
  obtain ⟨a1, c1, _, _, e⟩ := h.slices
  obtain ⟨b, off, cap, kv, rfl, hb, x0, x1, x2, hkv⟩ := h.node hi
  obtain ⟨rfl, -⟩ : tv = .slice a1 toks.length c1 ∧ _ := by simpa using e
  rw [hni] at hkv
  simp only at hkv
  obtain ⟨ak, ck, rfl, _, hkf⟩ := hkv.form
  obtain ⟨bk, ok, rfl, hbk, hkc⟩ := hkf (by omega)
  have hz := hkc 1 hp1
  rw [hp2] at hz
  clear e hkv hkf hkc hn hni x0 x1 hut1 hut1' hq1 hp2 hl1 hM htx hmt
  have hal2 := ((Below.refl w.heap.size w).alloc (Nat.le_refl _) (.cells #[.slice a1 toks.length c1, .slice (some ⟨b, off, none⟩) nodes.length cap] 88)).alloc (by simp) (.cells #[.int .i64 0, .string ⟨#[]⟩, .string ⟨#[]⟩, .bool false, .slice none 0 0, .bool false, .slice none 0 0, .int .i64 0] 40)
  have X2 := cell_later hal2 x2
  have Z2 := cell_later hal2 hz
  have g0 := (Lib.alloc_old _ (.cells #[.int .i64 0, .string ⟨#[]⟩, .string ⟨#[]⟩, .bool false, .slice none 0 0, .bool false, .slice none 0 0, .int .i64 0] 40) w.heap.size (by simp)).trans (heap_alloc_new w (.cells #[.slice a1 toks.length c1, .slice (some ⟨b, off, none⟩) nodes.length cap] 88))
  have g1 := heap_alloc_new (w.alloc (.cells #[.slice a1 toks.length c1, .slice (some ⟨b, off, none⟩) nodes.length cap] 88)) (.cells #[.int .i64 0, .string ⟨#[]⟩, .string ⟨#[]⟩, .bool false, .slice none 0 0, .bool false, .slice none 0 0, .int .i64 0] 40)
  rw [World.size_alloc] at g1
  have hiI : (i : Int) < (nodes.length : Int) := by omega
  have hp1I : (1 : Int) < (ks.length : Int) := by omega
  have hCT := HT.out
  clear h x2 hz
  go_enter Tryz.func49, Tryz.ntmps49
  go_upto_region 1 with (fail)
  generalize (w.alloc _).alloc _ = w2 at g0 g1 hal2 X2 Z2 ⊢
  have r0 : w2.cell? ⟨w.heap.size, 0, none⟩ = some (.slice a1 toks.length c1) := by rw [Lib.cell_of_heap g0]; rfl
  have r1 : w2.cell? ⟨w.heap.size, 1, none⟩ = some (.slice (some ⟨b, off, none⟩) nodes.length cap) := by rw [Lib.cell_of_heap g0]; rfl
  have HK' := Lib.hid (fun W (hb : Below w2.heap.size w2 W) => (HK.out W (hCT.below ((hal2.trans (hb.mono hal2.size)).mono hB)) (by have := hal2.size; have := hb.size; omega)).mono (R' := fun e w' => e = .returned (.agg #[.int .i64 tk1.kind, .string ⟨tk1.lead.toArray⟩, .string (binAt m), .int .i64 tk1.place]) ∧ Below w2.heap.size w2 w' ∧ Below W.heap.size W w') fun e w' h => ⟨h.1, hb.trans (h.2.mono hb.size), h.2⟩)
  have hlt2 : w.heap.size + 1 < w2.heap.size := (Array.getElem?_eq_some_iff.1 g1).1
  go_cut [5] (fun p wc => ∃ X : Nat, p = .pointer (some ⟨X, 0, none⟩) ∧ wc.heap[X]? = some (.cells #[.int .i64 tk1.kind, .string ⟨tk1.lead.toArray⟩, .string (binAt m), .int .i64 tk1.place] 83 (0, 0)) ∧ wc.heap[w.heap.size]? = some (.cells #[.slice a1 toks.length c1, .slice (some ⟨b, off, none⟩) nodes.length cap] 88 (0, 0)) ∧ wc.heap[w.heap.size + 1]? = some (.cells #[.int .i64 0, .string ⟨#[]⟩, .string ⟨#[]⟩, .bool false, .slice none 0 0, .bool false, .slice none 0 0, .int .i64 0] 40 (0, 0)) ∧ Below w.heap.size w wc)
  case first =>
    go_region_held3 (fun w' => w'.cell? ⟨w.heap.size, 0, none⟩ = some (.slice a1 toks.length c1) ∧ w'.cell? ⟨w.heap.size, 1, none⟩ = some (.slice (some ⟨b, off, none⟩) nodes.length cap) ∧ w'.cell? ⟨b, off + i * 3 + 2, none⟩ = some (.slice (some ⟨bk, ok, none⟩) ks.length ck) ∧ w'.cell? ⟨bk, ok + 1, none⟩ = some (.int .i64 k1))
      (first | go_keep | exact p3 | exact ⟨(set4_cell w3 w2.heap.size _ _ _ _ (by omega)).trans p3.1, (set4_cell w3 w2.heap.size _ _ _ _ (by omega)).trans p3.2.1, (set4_cell w3 w2.heap.size _ _ _ _ (by omega)).trans p3.2.2.1, (set4_cell w3 w2.heap.size _ _ _ _ (by omega)).trans p3.2.2.2⟩)
      (first | (go_at_call 29; refine (HK'.out _ ?_).mono ?_; (first | exact (Below.refl _ _).drew | exact ((Below.refl _ _).alloc (Nat.le_refl _) _).drew); rintro e w3 ⟨rfl, hq3, hb3⟩; have p3 := And.intro (cell_later hq3 r0) (And.intro (cell_later hq3 r1) (And.intro (cell_later hq3 X2) (cell_later hq3 Z2))); try (have hTz := (hb3.block w2.heap.size (by simp)).trans (heap_alloc_new w2 (.cells #[.int .i64 0, .string ⟨#[]⟩, .string ⟨#[]⟩, .int .i64 0] 83)); obtain ⟨tz0, tz1, tz2, tz3, tz4⟩ := tok0_cells hTz)))
    · have hb3' : Below w.heap.size w w3 := hal2.trans (hq3.mono hal2.size)
      have q0 := (hq3.block w.heap.size (by omega)).trans g0
      have q1 := (hq3.block (w.heap.size + 1) (by omega)).trans g1
      have hz3 := hq3.size
      clear r0 r1 X2 Z2 p3
      go_wp2_with fail
      go_meet
      exact ⟨w3.heap.size, rfl, heap_alloc_new _ _, (Lib.alloc_old w3 _ w.heap.size (by omega)).trans q0, (Lib.alloc_old w3 _ (w.heap.size + 1) (by omega)).trans q1, hb3'.alloc hb3'.size _⟩
    · have hb3' : Below w.heap.size w w3 := hal2.trans (hq3.mono hal2.size)
      have q0 := (hq3.block w.heap.size (by omega)).trans g0
      have q1 := (hq3.block (w.heap.size + 1) (by omega)).trans g1
      obtain ⟨S3, So, _⟩ := store4 hTz (.int .i64 tk1.kind) (.string ⟨tk1.lead.toArray⟩) (.string (binAt m)) (.int .i64 tk1.place)
      have hle : w.heap.size ≤ w2.heap.size := by omega
      clear r0 r1 X2 Z2 p3 tz0 tz1 tz2 tz3 tz4
      go_wp2_with fail
      go_meet
      exact ⟨w2.heap.size, rfl, S3, (So w.heap.size (by omega)).trans q0, (So (w.heap.size + 1) (by omega)).trans q1, (((hb3'.setCell hle _).setCell hle _).setCell hle _).setCell hle _⟩
  case rest =>
    obtain ⟨X, rfl, hX, G0, G1, halw⟩ := hcut
    have hszw := halw.size
    clear g0 g1 hal2 X2 Z2 r0 r1 HK HK' hlt2
    go_wp2_with (go_at_call 71; refine (binSigns_any _).mono ?_; rintro e w5 ⟨rfl, hb5⟩)
    have hz5 := hb5.size
    have Y := (hb5.block X (Array.getElem?_eq_some_iff.1 hX).1).trans hX
    have Y0 := (hb5.block w.heap.size (Array.getElem?_eq_some_iff.1 G0).1).trans G0
    have Y1 := (hb5.block (w.heap.size + 1) (Array.getElem?_eq_some_iff.1 G1).1).trans G1
    have hal5 := halw.trans (hb5.mono hszw)
    have hlw5 : w.heap.size + 1 < w5.heap.size := (Array.getElem?_eq_some_iff.1 Y1).1
    have HM' := Lib.hid ((HM.out N tk1.place w5 (hCT.below (hal5.mono hB)) (by omega)).mono fun _ _ h => h.m)
    clear hX G0 G1 hb5 halw
    have f2 : w5.cell? ⟨X, 2, none⟩ = some (.string (binAt m)) := by rw [Lib.cell_of_heap Y]; rfl
    have f3 : w5.cell? ⟨X, 3, none⟩ = some (.int .i64 tk1.place) := by rw [Lib.cell_of_heap Y]; rfl
    have r0 : w5.cell? ⟨w.heap.size, 0, none⟩ = some (.slice a1 toks.length c1) := by rw [Lib.cell_of_heap Y0]; rfl
    have r1 : w5.cell? ⟨w.heap.size, 1, none⟩ = some (.slice (some ⟨b, off, none⟩) nodes.length cap) := by rw [Lib.cell_of_heap Y0]; rfl
    go_loop [20] (fun q => ∃ k : Nat, k ≤ m ∧ q = .int .i64 k) (fun q => 14 - (intOf q).toNat)
    case atStart => exact ⟨0, Nat.zero_le _, rfl⟩
    case round =>
      obtain ⟨k, hk, rfl⟩ := hrel
      have hkI : (k : Int) < 14 := by omega
      have hx := bin_index k (by omega)
      by_cases hkm : k = m
      · subst hkm
        have he := bin_same k
        have hop : (7 : Int) + (k : Int) = (N : Int) := by have := HN.out; omega
        go_wp2_with (go_at_call 51; refine HM'.out.mono ?_)
        rintro e w8 ⟨am, wn, cm, ae, ce, rfl, hxe, hb8⟩
        have D1 := (hb8.block (w.heap.size + 1) (by omega)).trans Y1
        clear r0 r1 f2 f3 Y Y0 Y1 hop
        have d0 : w8.cell? ⟨w.heap.size + 1, 0, none⟩ = some (.int .i64 0) := by rw [Lib.cell_of_heap D1]; rfl
        have d1 : w8.cell? ⟨w.heap.size + 1, 1, none⟩ = some (.string ⟨#[]⟩) := by rw [Lib.cell_of_heap D1]; rfl
        have d2 : w8.cell? ⟨w.heap.size + 1, 2, none⟩ = some (.string ⟨#[]⟩) := by rw [Lib.cell_of_heap D1]; rfl
        have d3 : w8.cell? ⟨w.heap.size + 1, 3, none⟩ = some (.bool false) := by rw [Lib.cell_of_heap D1]; rfl
        have d4 : w8.cell? ⟨w.heap.size + 1, 4, none⟩ = some (.slice none 0 0) := by rw [Lib.cell_of_heap D1]; rfl
        have d5 : w8.cell? ⟨w.heap.size + 1, 5, none⟩ = some (.bool false) := by rw [Lib.cell_of_heap D1]; rfl
        have d6 : w8.cell? ⟨w.heap.size + 1, 6, none⟩ = some (.slice none 0 0) := by rw [Lib.cell_of_heap D1]; rfl
        have d7 : w8.cell? ⟨w.heap.size + 1, 7, none⟩ = some (.int .i64 0) := by rw [Lib.cell_of_heap D1]; rfl
        have dz : ∀ j, w8.frozen? ⟨w.heap.size + 1, j, none⟩ = false := by intro j; simp [World.frozen?, D1]
        go_wp2
        obtain ⟨hE, hb9⟩ := EPost.store (w0 := w) (b := w.heap.size + 1) hxe hb8 hal5 (by omega) (by omega) (.int .i64 N) (.string ⟨#[]⟩) (.string ⟨#[]⟩) (.bool false) (.slice am wn cm) (.bool false) (.slice ae pes.length ce) (.int .i64 tk1.place)
        refine bodyPost_ret (v := .agg #[.int .i64 N, .string ⟨#[]⟩, .string ⟨#[]⟩, .bool false, .slice am wn cm, .bool false, .slice ae pes.length ce, .int .i64 tk1.place]) (by simp [results, Tryz.results49, go_sem, d0, d1, d2, d3, d4, d5, d6, d7]) rfl ?_
        exact ⟨_, _, rfl, hE, hb9⟩
      · have he := bin_ne k m (by omega) hm14 hkm
        go_wp2
        go_round
        case rel => exact ⟨k + 1, by omega, by go_num⟩
        case measure => simp [intOf]; omega
end Go.Proofs.YtemkhbmkaalgdaaGreatDoor
