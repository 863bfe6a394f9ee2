/- The walks of spot.Put, Cut and Pick where they refuse; the document's example. -/
import Derived.Test.YtofbhdpcpoclaaaSpotW4
namespace Go.Proofs.Ytofbhdpcpoclaaa
open Go.RowKit

set_option maxHeartbeats 1000000 in
set_option maxRecDepth 100000 in
theorem put_no (s : ByteArray) (v : Value) (l : List Edit) (w : World)
    (hs : s.size ≤ 1099511627776) (hl : l.length ≤ 1099511627776) (hls : ∀ k, (h : k < l.length) → l[k].2.size ≤ 1099511627776) (hv : Rec w.heap.size w v 2 editCells l) (hW : rightB s.size 0 s.size l = false) :
    Calls Try.prog 9 #[.string s, v] w fun e w' => e = .returned (.tuple #[.string ByteArray.empty, .slice none 0 0, .int .i64 10]) ∧ Below w.heap.size w w' := by
  obtain ⟨ao, cap, rfl, hcap, hf⟩ := hv.form (fun _ => rfl)
  have HW := Lib.hid hW
  clear hW hf
  go_enter Try.func9, Try.ntmps9
  go_wp2_with (go_at_call 21; refine (right_any s _ l _ hs hl hls hv).mono ?_; rintro e w1 ⟨he, hb1⟩; rw [HW.out] at he; subst he)
  go_ret3
  exact ⟨rfl, hb1⟩

set_option maxHeartbeats 1000000 in
set_option maxRecDepth 100000 in
theorem cut_no (s : ByteArray) (v : Value) (l : List Span) (w : World)
    (hs : s.size ≤ 1099511627776) (hl : l.length ≤ 1099511627776) (hv : Rec w.heap.size w v 2 spanCells l) (hW : withinB s.size 0 l = false) :
    Calls Try.prog 14 #[.string s, v] w fun e w' => e = .returned (.tuple #[.string ByteArray.empty, .int .i64 10]) ∧ Below w.heap.size w w' := by
  obtain ⟨ao, cap, rfl, hcap, hf⟩ := hv.form (fun _ => rfl)
  have HW := Lib.hid hW
  clear hW hf
  go_enter Try.func14, Try.ntmps14
  go_wp2_with (go_at_call 25; refine (within_any s _ l _ hs hl hv).mono ?_; rintro e w1 ⟨he, hb1⟩; rw [HW.out] at he; subst he)
  go_ret2
  exact ⟨rfl, hb1⟩

set_option maxHeartbeats 1000000 in
set_option maxRecDepth 100000 in
theorem pick_no (s : ByteArray) (v : Value) (l : List Span) (w : World)
    (hs : s.size ≤ 1099511627776) (hl : l.length ≤ 1099511627776) (hv : Rec w.heap.size w v 2 spanCells l) (hW : withinB s.size 0 l = false) :
    Calls Try.prog 13 #[.string s, v] w fun e w' => e = .returned (.tuple #[.slice none 0 0, .int .i64 10]) ∧ Below w.heap.size w w' := by
  obtain ⟨ao, cap, rfl, hcap, hf⟩ := hv.form (fun _ => rfl)
  have HW := Lib.hid hW
  clear hW hf
  go_enter Try.func13, Try.ntmps13
  go_wp2_with (go_at_call 25; refine (within_any s _ l _ hs hl hv).mono ?_; rintro e w1 ⟨he, hb1⟩; rw [HW.out] at he; subst he)
  go_ret2
  exact ⟨rfl, hb1⟩

/-- A slice that has just been laid out reads as its cells. -/
theorem Rec.laid {α : Type} {w : World} {f : α → List Value} {sz : Nat} (T : TypeId) (l : List α) (cs : Array Value) (hf : ∀ x, (f x).length = sz) (hcs : cs.toList = l.flatMap f) :
    Rec (w.alloc (.cells cs T)).heap.size (w.alloc (.cells cs T)) (.slice (some ⟨w.heap.size, 0, none⟩) l.length l.length) sz f l := by
  refine ⟨some ⟨w.heap.size, 0, none⟩, l.length, rfl, Nat.le_refl _, flat_length hf l, fun _ => ⟨w.heap.size, 0, rfl, by simp, fun i hi => ?_⟩⟩
  rw [Nat.zero_add, Lib.cell_of_heap (heap_alloc_new w _), ← Array.getElem?_toList, hcs, List.getElem?_eq_getElem hi]

def exEdits : List Edit := [(1, ⟨#[120]⟩), (2, ⟨#[121, 122]⟩)]
theorem ex_right : rightB (2 : Nat) 0 (2 : Nat) exEdits = true := by decide +kernel
theorem ex_put : putOut [97, 98] 0 exEdits = [97, 120, 98, 121, 122] := by decide +kernel
theorem ex_spans : putSpans 0 0 exEdits = [(1, 2), (3, 5)] := by decide +kernel

set_option maxHeartbeats 1000000 in
set_option maxRecDepth 100000 in
theorem anchor_any (w : World) : Calls Try.prog 8 #[] w fun e w' => e = .returned (.bool true) ∧ Below w.heap.size w w' := by
  go_enter Try.func8, Try.ntmps8
  go_wp2_with (go_at_call 9; refine (put_any ⟨#[97, 98]⟩ _ exEdits _ (by decide) (by decide) (by decide) (Rec.laid 29 exEdits _ (fun _ => rfl) rfl) ex_right).mono ?_)
  rintro e w1 ⟨v', rfl, hr, hb1⟩
  have hb : Below w.heap.size w w1 := ((Below.refl _ w).alloc (Nat.le_refl _) _).trans (hb1.mono (by simp))
  rw [ex_spans] at hr
  obtain ⟨ao', cap', rfl, hc', hf'⟩ := hr.form (fun _ => rfl)
  obtain ⟨b', off', rfl, _, hcell⟩ := hf' (by decide)
  have q0 : w1.cell? ⟨b', off', none⟩ = some (.int .i64 1) := by simpa using hcell 0 0 _ (by decide) rfl
  have q1 : w1.cell? ⟨b', off' + 1, none⟩ = some (.int .i64 2) := by simpa using hcell 0 1 _ (by decide) rfl
  have q2 : w1.cell? ⟨b', off' + 2, none⟩ = some (.int .i64 3) := by simpa using hcell 1 0 _ (by decide) rfl
  have q3 : w1.cell? ⟨b', off' + 2 + 1, none⟩ = some (.int .i64 5) := by simpa using hcell 1 1 _ (by decide) rfl
  have hp : putOut (ByteArray.mk #[97, 98]).data.toList 0 exEdits = [97, 120, 98, 121, 122] := ex_put
  rw [hp]
  clear hcell hf' hr hb1
  simp only [List.length_cons, List.length_nil, Nat.zero_add]
  go_wp2
  go_ret
  exact ⟨rfl, hb⟩
end Go.Proofs.Ytofbhdpcpoclaaa
