/- SpotLimit's walk: at any two numbers it returns true. No condition. -/
import Derived.Test.YtofbhdpcpoclaaaSpotW5
import Derived.RegionTactic
import Derived.BigRegion
namespace Go.Proofs.Ytofbhdpcpoclaaa
open Go.RowKit

/-- A block of n zero bytes; the text of n zero bytes. -/
def zeroBlock (n : Nat) : Obj := .cells (madeCells #[.int .u8 0] n) 5
def zeros (n : Nat) : ByteArray := ⟨(List.replicate n 0).toArray⟩
theorem zeros_size (n : Nat) : (zeros n).size = n := by simp [zeros, ByteArray.size]

theorem fold_zeros : ∀ (n : Nat) (b : ByteArray), (List.replicate n (0 : Int)).foldl (fun r n => r.push (UInt8.ofNat n.toNat)) b = ⟨b.data ++ (List.replicate n (0 : UInt8)).toArray⟩
  | 0, b => by simp
  | n + 1, b => by
    rw [List.replicate_succ, List.foldl_cons, fold_zeros n]
    congr 1
    show b.data.push (UInt8.ofNat (Int.toNat 0)) ++ _ = _
    rw [List.replicate_succ, ← Array.toList_inj]
    simp

theorem make_zero (n : Nat) (hn : n ≤ 1000000) (w : World) : (Instr.makeSlice 23 (.int .i64 n) (.int .i64 n)).run Try.prog w = .ok (.slice (some ⟨w.heap.size, 0, none⟩) n n) (w.alloc (zeroBlock n)) := by
  obtain ⟨i0, hi, hz0, hz1, hz2⟩ := info_parts Try.infoByte
  have := run_make w 23 5 i0 (.int .u8 0) Try.underlying23 hi hz0 .i64 .i64 n n (by omega) (by omega) (by rw [hz2]; omega) (by omega)
  rw [this, hz1]
  simp [zeroBlock, Value.cells]

theorem zero_cell {w : World} {g n : Nat} (h : w.heap[g]? = some (zeroBlock n)) (i : Nat) (hi : i < n) : w.cell? ⟨g, i, none⟩ = some (.int .u8 0) := by
  rw [Lib.cell_of_heap h, ← Array.getElem?_toList, toList_madeCells_one, List.getElem?_replicate, if_pos hi]

theorem load_zeros {w : World} {g n : Nat} (h : w.heap[g]? = some (zeroBlock n)) :
    (loadCells ⟨g, 0, none⟩ n).run Try.prog w = .ok ((List.replicate n (0 : Int)).map (Value.int .u8)).toArray w := by
  have := run_loadCells_list (P := Try.prog) w ⟨g, 0, none⟩ (List.replicate n (.int .u8 0)) (fun j v hj => by
    obtain ⟨hl, e⟩ := List.getElem?_eq_some_iff.1 hj
    rw [List.length_replicate] at hl
    rw [List.getElem_replicate] at e
    subst e
    have := zero_cell h j hl
    unfold Addr.add
    split
    · rename_i h0; subst h0; exact this
    · simpa using this)
  rw [List.length_replicate] at this
  rw [this, List.map_replicate]

theorem conv_zero (n : Nat) (w : World) (g : Nat) (h : w.heap[g]? = some (zeroBlock n)) :
    (convert 23 9 (.slice (some ⟨g, 0, none⟩) n n)).run Try.prog w = .ok (.string (zeros n)) w := by
  have hb := run_bytesToString (P := Try.prog) w ⟨g, 0, none⟩ n n (List.replicate n 0) (load_zeros h)
  rw [fold_zeros] at hb
  simp [convert, run_underlying Try.underlying23, run_underlying Try.underlying9, run_underlying Try.underlying5]
  simpa [zeros] using hb


theorem conv_a (n : Nat) (w : World) : (convert 23 9 (.slice (some ⟨w.heap.size, 0, none⟩) n n)).run Try.prog (w.alloc (zeroBlock n)).drew = .ok (.string (zeros n)) (w.alloc (zeroBlock n)).drew :=
  conv_zero n _ _ (heap_alloc_new w _)
theorem conv_b (n : Nat) (w : World) (o : Obj) : (convert 23 9 (.slice (some ⟨w.heap.size, 0, none⟩) n n)).run Try.prog ((w.alloc (zeroBlock n)).alloc o).drew = .ok (.string (zeros n)) ((w.alloc (zeroBlock n)).alloc o).drew :=
  conv_zero n _ _ ((Lib.alloc_old (w.alloc (zeroBlock n)) o w.heap.size (by simp)).trans (heap_alloc_new w _))
theorem conv_c (n : Nat) (w : World) (o : Obj) : (convert 23 9 (.slice (some ⟨w.heap.size + 1, 0, none⟩) n n)).run Try.prog ((w.alloc o).alloc (zeroBlock n)).drew = .ok (.string (zeros n)) ((w.alloc o).alloc (zeroBlock n)).drew :=
  conv_zero n _ _ (by have := heap_alloc_new (w.alloc o) (zeroBlock n); rw [show (w.alloc o).heap.size = w.heap.size + 1 by simp] at this; exact this)

set_option maxHeartbeats 2000000 in
set_option maxRecDepth 100000 in
theorem limit_walk (n m : Nat) (w : World) (hn : n ≤ 70000) (hm0 : 1 ≤ m) (hm : m ≤ 70000) :
    Calls Try.prog 3 #[.int .i64 n, .int .i64 m] w fun e w' => e = .returned (.bool true) ∧ Below w.heap.size w w' := by
  have k1 := make_zero n (by omega)
  have k2 := make_zero m (by omega)
  have c1 := conv_a n
  have c2 := conv_a m
  have c3 := conv_b n
  have c4 := conv_b m
  have c5 := conv_c n
  have c6 := conv_c m
  go_enter Try.func3, Try.ntmps3
  go_wp2_with (go_at_call 8; refine (anchor_any _).mono ?_; rintro e w1 ⟨rfl, hb1⟩)
  have q1 : [((n : Int), zeros m)].length ≤ 1099511627776 := by simp
  have q2 : ∀ k, (h : k < [((n : Int), zeros m)].length) → [((n : Int), zeros m)][k].2.size ≤ 1099511627776 := by
    intro k h
    simp at h
    subst h
    show (zeros m).size ≤ _
    rw [zeros_size]
    omega
  have q3 : (zeros n).size ≤ 1099511627776 := by rw [zeros_size]; omega
  go_region
  all_goals
    clear k1 k2 c1 c2 c3 c4 c5 c6
    have hz1 := hb1.size
    have hbr : ∀ A B, Below w.heap.size w ((w1.alloc A).alloc B).drew := fun A B => ((hb1.alloc hz1 A).alloc (by simp; omega) B).drew
    generalize hw2 : ((w1.alloc _).alloc _).drew = w2
    have hb2 : Below w.heap.size w w2 := by rw [← hw2]; exact hbr _ _
    have hz2 := hb2.size
    clear hbr hw2
    have hr := rightB_cons (zeros n).size 0 (zeros n).size ((n : Int), zeros m) []
    simp only [zeros_size] at hr
    by_cases hc : n + m ≤ 65536
    · have hR : rightB (zeros n).size 0 (zeros n).size [((n : Int), zeros m)] = true := by
        rw [zeros_size, hr]
        exact ⟨by omega, by omega, by omega, by omega, by rw [rightB]; exact decide_eq_true (by omega)⟩
      have hlen : (ByteArray.mk (putOut (zeros n).data.toList 0 [((n : Int), zeros m)]).toArray).size = n + m := by
        simp [putOut, zeros, ByteArray.size]
      have HL := Lib.hid hlen
      clear hlen hr
      go_wp2_with (go_at_call 9; refine (put_any (zeros n) _ [((n : Int), zeros m)] _ q3 q1 q2 (Rec.laid 29 [((n : Int), zeros m)] _ (fun _ => rfl) rfl) hR).mono ?_)
      rintro e w3 ⟨v', rfl, hr2, hb3⟩
      have hb : Below w.heap.size w w3 := (hb2.alloc hz2 _).trans (hb3.mono (by simp; omega))
      have hl := HL.out
      generalize ByteArray.mk (putOut (zeros n).data.toList 0 [((n : Int), zeros m)]).toArray = t at hl ⊢
      have ht : ((t.size : Int) == (n : Int) + (m : Int)) = true := by rw [hl]; simp
      clear hl HL hR hb3 hb2 hb1
      obtain ⟨ao', cap', rfl, hc', hf'⟩ := hr2.form (fun _ => rfl)
      clear hf'
      go_wp2
      go_ret
      exact ⟨rfl, hb⟩
    · have hR : rightB (zeros n).size 0 (zeros n).size [((n : Int), zeros m)] = false := by
        rw [zeros_size]
        cases hq : rightB n 0 n [((n : Int), zeros m)] with
        | false => rfl
        | true => have := hr.1 hq; omega
      clear hr
      go_wp2_with (go_at_call 9; refine (put_no (zeros n) _ [((n : Int), zeros m)] _ q3 q1 q2 (Rec.laid 29 [((n : Int), zeros m)] _ (fun _ => rfl) rfl) hR).mono ?_; rintro e w3 ⟨rfl, hb3⟩)
      go_ret
      exact ⟨rfl, (hb2.alloc hz2 _).trans (hb3.mono (by simp; omega))⟩
end Go.Proofs.Ytofbhdpcpoclaaa
