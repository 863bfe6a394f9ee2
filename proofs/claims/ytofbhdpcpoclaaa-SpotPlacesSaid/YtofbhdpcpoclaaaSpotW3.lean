/- The walk of spot.Cut. -/
import Derived.Test.YtofbhdpcpoclaaaSpotW2
import Derived.Test.YtofbhdpcpoclaaaBuilder
namespace Go.Proofs.Ytofbhdpcpoclaaa
open Go.RowKit

/-- What is left of a text without spans, from a place on. -/
def cutOut (s : List UInt8) : Nat → List Span → List UInt8
  | last, [] => s.drop last
  | last, p :: r => (s.take p.1.toNat).drop last ++ cutOut s p.2.toNat r

theorem ret_str {a b : List UInt8} {v : Value} (h : a = b) : Ending.returned (.tuple #[.string ⟨a.toArray⟩, v]) = .returned (.tuple #[.string ⟨b.toArray⟩, v]) := by rw [h]
theorem extract_list (s : ByteArray) (a b : Nat) : (s.extract a b).data.toList = (s.data.toList.take b).drop a := by
  rw [Lib.extract_data, List.drop_take]
theorem extract_end (s : ByteArray) (a : Nat) : (s.extract a s.size).data.toList = s.data.toList.drop a := by
  rw [extract_list, List.take_of_length_le]
  simp

set_option maxHeartbeats 1000000 in
set_option maxRecDepth 100000 in
theorem cut_any (s : ByteArray) (v : Value) (l : List Span) (w : World)
    (hs : s.size ≤ 1099511627776) (hl : l.length ≤ 1099511627776) (hv : Rec w.heap.size w v 2 spanCells l) (hW : withinB s.size 0 l = true) :
    Calls Try.prog 14 #[.string s, v] w fun e w' => e = .returned (.tuple #[.string ⟨(cutOut s.data.toList 0 l).toArray⟩, .int .i64 0]) ∧ Below w.heap.size w w' := by
  obtain ⟨ao, cap, rfl, hcap, hf⟩ := hv.form (fun _ => rfl)
  have HW := Lib.hid hW
  clear hW
  go_enter Try.func14, Try.ntmps14
  go_wp2_with (go_at_call 25; refine (within_any s _ l _ hs hl hv).mono ?_; rintro e w1 ⟨he, hb1⟩; rw [HW.out] at he; subst he)
  have hz1' := hb1.size
  go_loopw [7, 16] (fun la i wr => ∃ k : Nat, k ≤ l.length ∧ i = .int .i64 k ∧ ∃ (a : Nat) (acc : List UInt8), la = .int .i64 a ∧ Bld w.heap.size w1.heap.size acc wr ∧ Below w.heap.size w wr ∧
      a ≤ s.size ∧ acc.length ≤ a ∧ withinB s.size a (l.drop k) = true ∧ acc ++ cutOut s.data.toList a (l.drop k) = cutOut s.data.toList 0 l) (fun _ i _ => l.length - (intOf i).toNat)
  case atStart => exact ⟨0, Nat.zero_le _, rfl, 0, [], rfl, (Bld.fresh w1).mono hz1', hb1.alloc hz1' _, by omega, by simp, HW.out, rfl⟩
  case round =>
    obtain ⟨k, hk, rfl, a, acc, rfl, hbd, hbl, ha1, ha2, hR, hO⟩ := hrel
    have hz := hbl.size
    by_cases hlt : k < l.length
    · obtain ⟨b, off, rfl, hb, hcell⟩ := hf (by omega)
      have hx0 := (hbl.cell (p := ⟨b, off + k * 2, none⟩) hb).trans (hcell k 0 _ hlt rfl)
      have hx1 := (hbl.cell (p := ⟨b, off + k * 2 + 1, none⟩) hb).trans (hcell k 1 _ hlt rfl)
      rw [List.drop_eq_getElem_cons hlt] at hR hO
      generalize hE : l[k] = e at hx0 hx1 hR hO
      obtain ⟨e0, e1⟩ := e
      simp only at hx0 hx1
      obtain ⟨h1, h2, h3, h4⟩ := (withinB_cons _ _ _ _).1 hR
      simp only at h1 h2 h3 h4
      obtain ⟨n0, rfl⟩ := Int.eq_ofNat_of_zero_le (by omega : 0 ≤ e0)
      obtain ⟨n1, rfl⟩ := Int.eq_ofNat_of_zero_le (by omega : 0 ≤ e1)
      have HR := Lib.hid h4
      have HO := Lib.hid hO
      clear hcell hf hR hE h4 hO
      go_wp2_with (go_at_call 22; refine (write_any w.heap.size w1.heap.size acc (s.extract a n0) _ (hbd.alloc _) ?c1 ?c2).mono ?_)
      case c1 => rw [ByteArray.size_extract]; omega
      case c2 => simp; omega
      rintro e w2 ⟨rfl, hbd2, hb2, ho2⟩
      have hbx := (hbd.alloc (.cells #[.int .i64 n0, .int .i64 n1] 45)).block ho2 (k := wr.heap.size) (heap_alloc_new _ _) (by decide) (by decide)
      have c1 : w2.cell? ⟨wr.heap.size, 1, none⟩ = some (.int .i64 n1) := by rw [Lib.cell_of_heap hbx]; rfl
      clear hbx ho2
      go_wp2
      go_roundw
      case rel =>
        refine ⟨k + 1, by omega, by go_num, n1, _, rfl, hbd2, (hbl.alloc hz _).trans hb2, by omega, ?_, HR.out, ?_⟩
        · rw [List.length_append, extract_list, List.length_drop, List.length_take]; omega
        · rw [← HO.out, cutOut, extract_list, List.append_assoc]; rfl
      case measure => simp [intOf]; omega
    · have hkl : k = l.length := by omega
      subst hkl
      rw [List.drop_length] at hO
      have HO := Lib.hid hO
      clear hO hf hR
      go_wp2_with (go_at_call 22; refine (write_any w.heap.size w1.heap.size acc (s.extract a s.size) _ hbd ?c1 ?c2).mono ?_)
      case c1 => rw [ByteArray.size_extract]; omega
      case c2 => omega
      rintro e w2 ⟨rfl, hbd2, hb2, ho2⟩
      have hz2 : w.heap.size ≤ w2.heap.size := by have := hb2.size; omega
      generalize hq : acc ++ (s.extract a s.size).data.toList = acc2 at hbd2
      have HQ := Lib.hid hq
      clear hq
      clear ho2
      go_wp2_with (go_at_call 24; refine (bstring_any w.heap.size w1.heap.size _ _ hbd2 hz2).mono ?_; rintro e w4 ⟨rfl, hbd4, hb4, ho4⟩)
      go_ret2
      exact ⟨ret_str (by rw [← HO.out, cutOut, ← HQ.out, extract_end]), (hbl.trans hb2).trans hb4⟩
end Go.Proofs.Ytofbhdpcpoclaaa
