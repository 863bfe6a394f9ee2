/- The walks of spot.right and spot.within. No condition beyond the form's own reach. -/
import Derived.Test.YtofbhdpcpoclaaaRows
import Derived.Test.YtofbhdpcpoclaaaSpotPlain
namespace Go.Proofs.Ytofbhdpcpoclaaa
open Go.RowKit

set_option maxHeartbeats 1000000 in
set_option maxRecDepth 100000 in
theorem right_any (s : ByteArray) (v : Value) (l : List Edit) (w : World)
    (hs : s.size ≤ 1099511627776) (hl : l.length ≤ 1099511627776) (hls : ∀ k, (h : k < l.length) → l[k].2.size ≤ 1099511627776)
    (hv : Rec w.heap.size w v 2 editCells l) :
    Calls Try.prog 21 #[.string s, v] w fun e w' => e = .returned (.bool (rightB s.size 0 s.size l)) ∧ Below w.heap.size w w' := by
  obtain ⟨ao, cap, rfl, hcap, hf⟩ := hv.form (fun _ => rfl)
  clear hv
  go_enter Try.func21, Try.ntmps21
  go_wp2
  go_loopw [5, 6, 13] (fun la sz i wr => ∃ k : Nat, k ≤ l.length ∧ i = .int .i64 k ∧ ∃ a c : Int, la = .int .i64 a ∧ sz = .int .i64 c ∧ Below w.heap.size w wr ∧ 0 ≤ c ∧ c ≤ 1099511627776 ∧
      rightB s.size a c (l.drop k) = rightB s.size 0 s.size l) (fun _ _ i _ => l.length - (intOf i).toNat)
  case atStart => exact ⟨0, Nat.zero_le _, rfl, 0, s.size, rfl, rfl, Below.refl _ _, by omega, by omega, rfl⟩
  case round =>
    obtain ⟨k, hk, rfl, a, c, rfl, rfl, hbl, hc1, hc2, hR⟩ := hrel
    by_cases hlt : k < l.length
    · obtain ⟨b, off, rfl, hb, hcell⟩ := hf (by omega)
      have hx0 := (hbl.cell (p := ⟨b, off + k * 2, none⟩) hb).trans (hcell k 0 _ hlt rfl)
      have hx1 := (hbl.cell (p := ⟨b, off + k * 2 + 1, none⟩) hb).trans (hcell k 1 _ hlt rfl)
      have he1 := hls k hlt
      rw [List.drop_eq_getElem_cons hlt] at hR
      generalize l[k] = e at hx0 hx1 he1 hR
      obtain ⟨e0, e1⟩ := e
      simp only at hx0 hx1 he1
      have HR := Lib.hid hR
      have hz := hbl.size
      clear hcell hls hf hR
      go_wp2
      · have h1 : e0 < a := by assumption
        go_ret
        exact ⟨ret_bool (by rw [← HR.out, rightB, if_pos h1]), hbl.alloc hz _⟩
      · have h1 : ¬ e0 < a := by omega
        have h2 : (s.size : Int) < e0 := by assumption
        go_ret
        exact ⟨ret_bool (by rw [← HR.out, rightB, if_neg h1, if_pos h2]), hbl.alloc hz _⟩
      · have h1 : ¬ e0 < a := by omega
        have h2 : ¬ (s.size : Int) < e0 := by omega
        have h3 : e1.toList.isEmpty = true := by assumption
        go_ret
        exact ⟨ret_bool (by rw [← HR.out, rightB, if_neg h1, if_neg h2, if_pos h3]), hbl.alloc hz _⟩
      · have h1 : ¬ e0 < a := by omega
        have h2 : ¬ (s.size : Int) < e0 := by omega
        have h3 : e1.toList.isEmpty = false := by assumption
        have h4 : 65536 < c + e1.size := by assumption
        go_ret
        exact ⟨ret_bool (by rw [← HR.out, rightB, if_neg h1, if_neg h2, if_neg (by simp [h3]), if_pos h4]), hbl.alloc hz _⟩
      · have h1 : ¬ e0 < a := by omega
        have h2 : ¬ (s.size : Int) < e0 := by omega
        have h3 : e1.toList.isEmpty = false := by assumption
        have h4 : ¬ 65536 < c + e1.size := by omega
        go_roundw
        case rel => exact ⟨k + 1, by omega, by go_num, e0, c + e1.size, rfl, rfl, hbl.alloc hz _, by omega, by omega, by rw [← HR.out, rightB, if_neg h1, if_neg h2, if_neg (by simp [h3]), if_neg h4]⟩
        case measure => simp [intOf]; omega
    · have hkl : k = l.length := by omega
      have HR := Lib.hid hR
      clear hR hf
      go_wp2
      go_ret
      exact ⟨ret_bool (by rw [← HR.out, hkl, List.drop_length, rightB]), hbl⟩

set_option maxHeartbeats 1000000 in
set_option maxRecDepth 100000 in
theorem within_any (s : ByteArray) (v : Value) (l : List Span) (w : World)
    (_hs : s.size ≤ 1099511627776) (hl : l.length ≤ 1099511627776) (hv : Rec w.heap.size w v 2 spanCells l) :
    Calls Try.prog 25 #[.string s, v] w fun e w' => e = .returned (.bool (withinB s.size 0 l)) ∧ Below w.heap.size w w' := by
  obtain ⟨ao, cap, rfl, hcap, hf⟩ := hv.form (fun _ => rfl)
  clear hv
  go_enter Try.func25, Try.ntmps25
  go_wp2
  go_loopw [5, 10] (fun la i wr => ∃ k : Nat, k ≤ l.length ∧ i = .int .i64 k ∧ ∃ a : Int, la = .int .i64 a ∧ Below w.heap.size w wr ∧
      withinB s.size a (l.drop k) = withinB s.size 0 l) (fun _ i _ => l.length - (intOf i).toNat)
  case atStart => exact ⟨0, Nat.zero_le _, rfl, 0, rfl, Below.refl _ _, rfl⟩
  case round =>
    obtain ⟨k, hk, rfl, a, rfl, hbl, hR⟩ := hrel
    by_cases hlt : k < l.length
    · obtain ⟨b, off, rfl, hb, hcell⟩ := hf (by omega)
      have hx0 := (hbl.cell (p := ⟨b, off + k * 2, none⟩) hb).trans (hcell k 0 _ hlt rfl)
      have hx1 := (hbl.cell (p := ⟨b, off + k * 2 + 1, none⟩) hb).trans (hcell k 1 _ hlt rfl)
      rw [List.drop_eq_getElem_cons hlt] at hR
      generalize l[k] = e at hx0 hx1 hR
      obtain ⟨e0, e1⟩ := e
      simp only at hx0 hx1
      have HR := Lib.hid hR
      have hz := hbl.size
      clear hcell hf hR
      go_wp2
      · have h1 : e0 < a := by assumption
        go_ret
        exact ⟨ret_bool (by rw [← HR.out, withinB, if_pos h1]), hbl.alloc hz _⟩
      · have h1 : ¬ e0 < a := by omega
        have h2 : e1 ≤ e0 := by assumption
        go_ret
        exact ⟨ret_bool (by rw [← HR.out, withinB, if_neg h1, if_pos h2]), hbl.alloc hz _⟩
      · have h1 : ¬ e0 < a := by omega
        have h2 : ¬ e1 ≤ e0 := by omega
        have h3 : (s.size : Int) < e1 := by assumption
        go_ret
        exact ⟨ret_bool (by rw [← HR.out, withinB, if_neg h1, if_neg h2, if_pos h3]), hbl.alloc hz _⟩
      · have h1 : ¬ e0 < a := by omega
        have h2 : ¬ e1 ≤ e0 := by omega
        have h3 : ¬ (s.size : Int) < e1 := by omega
        go_roundw
        case rel => exact ⟨k + 1, by omega, by go_num, e1, rfl, hbl.alloc hz _, by rw [← HR.out, withinB, if_neg h1, if_neg h2, if_neg h3]⟩
        case measure => simp [intOf]; omega
    · have hkl : k = l.length := by omega
      have HR := Lib.hid hR
      clear hR hf
      go_wp2
      go_ret
      exact ⟨ret_bool (by rw [← HR.out, hkl, List.drop_length, withinB]), hbl⟩
end Go.Proofs.Ytofbhdpcpoclaaa
