/- LexTells' walk: at every text the law returns true. -/
import Derived.Test.YtofbhdpcpoclaaaDoorRecs
import Derived.Test.YtofbhdpcpoclaaaDoorLexWhole
import Derived.Test.YtofbhdpcpoclaaaDoorLexAnchor
import Derived.Test.YtofbhdpcpoclaaaDoorRefLex6
namespace Go.Proofs.YtofbhdpcpoclaaaDoor
open Go.RowKit

set_option maxHeartbeats 2000000 in
set_option maxRecDepth 100000 in
theorem tells_any (s : ByteArray) (w : World) (hs : s.size ≤ maxLen) :
    Calls Tryd.prog 5 #[.string s] w fun e w' => e = .returned (.bool true) ∧ Below w.heap.size w w' := by
  unfold maxLen at hs
  by_cases h3 : (2000 : Int) < (s.size : Int)
  · go_enter Tryd.func5, Tryd.ntmps5
    go_wp2_with (go_at_call 7; refine (anchor_any _).mono ?_; rintro e w1 ⟨rfl, hb1⟩)
    go_ret
    exact ⟨rfl, hb1⟩
  · have h4 : (s.size : Int) ≤ 2000 := by omega
    have q1 : s.size ≤ 1099511627776 := by omega
    have HR := Lib.hid (fun w => refLex_any s w q1)
    go_enter Tryd.func5, Tryd.ntmps5
    go_wp2_with (first | (go_at_call 7; refine (anchor_any _).mono ?_; rintro e w1 ⟨rfl, hb1⟩) | (go_at_call 8; refine (lex_any s _ q1).mono ?_))
    rintro e w2 ⟨hb2, hm⟩
    have hb12 : Below w.heap.size w w2 := hb1.trans (hb2.mono hb1.size)
    have hz2 := hb12.size
    clear hb1 hb2
    cases hl : lexAll s.data.toList with
    | error x =>
      rw [hl] at hm
      subst hm
      have HL := Lib.hid hl
      clear hl
      go_wp2_with (go_at_call 9; refine (HR.out _).mono ?_)
      rintro e w3 ⟨hb3, hm⟩
      rw [HL.out] at hm
      subst hm
      have hne := (lexAll_fault HL.out).2
      obtain ⟨c, a⟩ := x
      simp only at hne
      have hnf := heap_alloc_new w2 (.cells #[.int .i64 c, .int .i64 a] 26)
      have hf3 : w3.heap[w2.heap.size]? = some (.cells #[.int .i64 c, .int .i64 a] 26 (0, 0)) := by rw [hb3.block _ (by simp)]; exact hnf
      have f0 : w3.cell? ⟨w2.heap.size, 0, none⟩ = some (.int .i64 c) := by rw [Lib.cell_of_heap hf3]; rfl
      have f1 : w3.cell? ⟨w2.heap.size, 1, none⟩ = some (.int .i64 a) := by rw [Lib.cell_of_heap hf3]; rfl
      have hne1 : ((c : Int) != 0) = true := by rw [bne_iff_ne]; omega
      have hb13 : Below w.heap.size w w3 := (hb12.alloc hz2 _).trans (hb3.mono (by simp; omega))
      have hxa : (c : Int) ≤ 100 := by omega
      clear hnf hf3 hb3 hne
      go_wp2
      go_loop [45] (fun i => i = .int .i64 0) (fun _ => 0)
      case atStart => rfl
      case round =>
        subst hrel
        go_wp2
        go_ret
        exact ⟨rfl, hb13⟩
    | ok l =>
      rw [hl] at hm
      obtain ⟨v', rfl, hr⟩ := hm
      have hL := lexAll_laid hl
      have hWh := hL.whole_eq
      have hcap : l.length ≤ 1099511627776 := by have := hL.count; rw [← Lib.size_eq] at this; omega
      have htl : tokAt l l.length ≤ 1099511627776 := by rw [hL.whole, ← Lib.size_eq]; omega
      have hl0 := hL.some
      have HL := Lib.hid hl
      have HW := Lib.hid hWh
      clear hl hL hWh
      obtain ⟨ao', cap', rfl, hc', hf'⟩ := hr.form (fun _ => rfl)
      clear hf'
      go_wp2_with (go_at_call 9; refine (HR.out _).mono ?_)
      rintro e w3 ⟨hb3, hm⟩
      rw [HL.out] at hm
      obtain ⟨v2, rfl, hr2⟩ := hm
      obtain ⟨ao2, cap2, rfl, hc2, hf2⟩ := hr2.form (fun _ => rfl)
      clear hf2
      have hnf := heap_alloc_new w2 (.cells #[.int .i64 0, .int .i64 0] 26)
      have hf3 : w3.heap[w2.heap.size]? = some (.cells #[.int .i64 0, .int .i64 0] 26 (0, 0)) := by rw [hb3.block _ (by simp)]; exact hnf
      have f0 : w3.cell? ⟨w2.heap.size, 0, none⟩ = some (.int .i64 0) := by rw [Lib.cell_of_heap hf3]; rfl
      have f1 : w3.cell? ⟨w2.heap.size, 1, none⟩ = some (.int .i64 0) := by rw [Lib.cell_of_heap hf3]; rfl
      have hb23 : Below w2.heap.size w2 w3 := ((Below.refl _ _).alloc (Nat.le_refl _) _).trans (hb3.mono (by simp))
      have hb13 : Below w.heap.size w w3 := hb12.trans (hb23.mono hz2)
      have hr1 := (hr.below hb23).mono hb23.size
      have hz3 := hb13.size
      clear hnf hf3 hb3 hr hb23 HL
      go_wp2
      go_loopw [45] (fun i wr => ∃ k : Nat, k ≤ l.length ∧ i = .int .i64 k ∧ Below w3.heap.size w3 wr) (fun i _ => l.length - (intOf i).toNat)
      case atStart => exact ⟨0, Nat.zero_le _, rfl, Below.refl _ _⟩
      case round =>
        obtain ⟨k, hk, rfl, hbl⟩ := hrel
        have hz := hbl.size
        clear f0 f1
        by_cases hlt : k < l.length
        · obtain ⟨b, off, rfl, hb, hcell⟩ := hr1.cells (fun _ => rfl) (by omega)
          obtain ⟨b2, off2, rfl, hb2, hcell2⟩ := hr2.cells (fun _ => rfl) (by omega)
          have hx0 := (hbl.cell (p := ⟨b, off + k * 4, none⟩) hb).trans (hcell k 0 _ hlt rfl)
          have hx1 := (hbl.cell (p := ⟨b, off + k * 4 + 1, none⟩) hb).trans (hcell k 1 _ hlt rfl)
          have hx2 := (hbl.cell (p := ⟨b, off + k * 4 + 2, none⟩) hb).trans (hcell k 2 _ hlt rfl)
          have hx3 := (hbl.cell (p := ⟨b, off + k * 4 + 3, none⟩) hb).trans (hcell k 3 _ hlt rfl)
          have hy0 := (hbl.cell (p := ⟨b2, off2 + k * 4, none⟩) hb2).trans (hcell2 k 0 _ hlt rfl)
          have hy1 := (hbl.cell (p := ⟨b2, off2 + k * 4 + 1, none⟩) hb2).trans (hcell2 k 1 _ hlt rfl)
          have hy2 := (hbl.cell (p := ⟨b2, off2 + k * 4 + 2, none⟩) hb2).trans (hcell2 k 2 _ hlt rfl)
          have hy3 := (hbl.cell (p := ⟨b2, off2 + k * 4 + 3, none⟩) hb2).trans (hcell2 k 3 _ hlt rfl)
          generalize l[k] = t at hx0 hx1 hx2 hx3 hy0 hy1 hy2 hy3
          obtain ⟨c, x, y, q⟩ := t
          simp only at hx0 hx1 hx2 hx3 hy0 hy1 hy2 hy3
          generalize ByteArray.mk x.toArray = X at hx1 hy1
          generalize ByteArray.mk y.toArray = Y at hx2 hy2
          have hal := (Below.refl wr.heap.size wr).alloc (Nat.le_refl _) (.cells #[.int .i64 c, .string X, .string Y, .int .i64 q] 30)
          have hy0' := cell_later hal hy0
          have hy1' := cell_later hal hy1
          have hy2' := cell_later hal hy2
          have hy3' := cell_later hal hy3
          clear hcell hcell2 hy0 hy1 hy2 hy3 hal
          go_wp2
          go_quiet (fail)
          go_wp2
          go_roundw
          case rel => exact ⟨k + 1, by omega, by go_num, below_drewN (hbl.alloc hz _) _⟩
          case measure => simp [intOf]; omega
        · have hkl : k = l.length := by omega
          subst hkl
          have hr3 := (hr1.below hbl).mono hz
          go_wp2_with (go_at_call 10; refine (whole_any _ l _ hcap htl hr3).mono ?_)
          rintro e w5 ⟨rfl, hb5⟩
          rw [HW.out]
          have hse : ByteArray.mk s.data.toList.toArray = s := by cases s; simp
          rw [hse]
          go_wp2
          go_ret
          exact ⟨rfl, (hb13.trans (hbl.mono hz3)).trans (hb5.mono (by omega))⟩
end Go.Proofs.YtofbhdpcpoclaaaDoor
