/- The walks of the law's edits and of the reference's Right. -/
import Derived.Test.YtofbhdpcpoclaaaSpotW5
namespace Go.Proofs.Ytofbhdpcpoclaaa
open Go.RowKit

def editsB (l : List Edit) : Bool := decide (l.length ≤ 20) && l.all fun e => decide (e.2.size ≤ 200)
def EditsOk (l : List Edit) (w : World) (e : Ending) (w' : World) : Prop :=
  ∃ v', e = .returned (.tuple #[v', .bool true]) ∧ Rec w'.heap.size w' v' 2 editCells l ∧ Below w.heap.size w w'

set_option maxHeartbeats 1000000 in
set_option maxRecDepth 100000 in
theorem edits_yes (v : Value) (l : List Edit) (w : World) (hv : Rec w.heap.size w v 2 editCells l) (h20 : l.length ≤ 20) (hls : ∀ k, (h : k < l.length) → l[k].2.size ≤ 200) :
    Calls Try.prog 10 #[v] w (EditsOk l w) := by
  obtain ⟨i0, hi, hz0, hz1, hz2⟩ := info_parts Try.infoREdit
  obtain ⟨ao, cap, rfl, hcap, hf⟩ := hv.form (fun _ => rfl)
  go_enter Try.func10, Try.ntmps10
  go_wp2
  go_loopw [4, 12] (fun out i wr => ∃ k : Nat, k ≤ l.length ∧ i = .int .i64 k ∧ wr.ownsRow w.heap.size 71 2 out k ((l.take k).flatMap editCells) ∧ Below w.heap.size w wr) (fun _ i _ => l.length - (intOf i).toNat)
  case atStart => exact ⟨0, Nat.zero_le _, rfl, World.ownsRow_nil _ _ _ _, Below.refl _ _⟩
  case round =>
    obtain ⟨k, hk, rfl, hown, hbl⟩ := hrel
    have hz := hbl.size
    by_cases hlt : k < l.length
    · obtain ⟨b, off, rfl, hb, hcell⟩ := hf (by omega)
      have hx0 := (hbl.cell (p := ⟨b, off + k * 2, none⟩) hb).trans (hcell k 0 _ hlt rfl)
      have hx1 := (hbl.cell (p := ⟨b, off + k * 2 + 1, none⟩) hb).trans (hcell k 1 _ hlt rfl)
      have he1 := hls k hlt
      have hsn := take_snoc l k hlt
      generalize l[k] = e at hx0 hx1 he1 hsn
      obtain ⟨e0, e1⟩ := e
      simp only at hx0 hx1 he1
      have HS := Lib.hid hsn
      clear hcell hls hf hsn
      go_wp2_with (at_builtin; refine wpList_append_own _ rfl _ _ 32 rfl w.heap.size 71 i0 (.agg #[.int .i64 0, .string ByteArray.empty]) 2 24 Try.underlying32 hi hz0 hz1 hz2 rfl (by decide) _ _ _ rfl ((hown.alloc _).alloc _) ⟨wr.heap.size + 1, 0, none⟩ 1 1 [.int .i64 e0, .string e1] rfl rfl ?c1 ?c2 ?c3 ?c4 ?c5 ?_)
      case c1 => exact cells_two (by go_simp) (by go_simp)
      case c2 => intro u hu; simp at hu; rcases hu with rfl | rfl <;> rfl
      case c3 => unfold maxLen; omega
      case c4 => omega
      case c5 => simp; omega
      intro v' w2 hown' hgrow _
      have hb2 : Below w.heap.size w w2 := ((hbl.alloc hz _).alloc (by simp; omega) _).grown hgrow (by simp; omega) (fun q hq => (hown.lt q hq).1)
      have hown2 : w2.ownsRow w.heap.size 71 2 v' (k + 1) ((l.take (k + 1)).flatMap editCells) := by
        rw [HS.out, List.flatMap_append]
        exact hown'
      clear hgrow hown hown'
      go_wp2
      go_roundw
      case rel => exact ⟨k + 1, by omega, by go_num, hown2, hb2⟩
      case measure => simp [intOf]; omega
    · have hkl : k = l.length := by omega
      subst hkl
      clear hf hls
      go_wp2
      go_ret2
      refine ⟨_, rfl, ?_, hbl⟩
      have := Sl.ofOwns hown
      rw [List.take_length] at this
      exact this

set_option maxHeartbeats 1000000 in
set_option maxRecDepth 100000 in
theorem edits_long (v : Value) (l : List Edit) (w : World) (hv : Rec w.heap.size w v 2 editCells l) (h20 : 20 < l.length) :
    Calls Try.prog 10 #[v] w fun e w' => e = .returned (.tuple #[.slice none 0 0, .bool false]) ∧ Below w.heap.size w w' := by
  obtain ⟨ao, cap, rfl, hcap, hf⟩ := hv.form (fun _ => rfl)
  clear hf
  go_enter Try.func10, Try.ntmps10
  go_wp2
  go_ret2
  exact ⟨rfl, Below.refl _ _⟩

set_option maxHeartbeats 1000000 in
set_option maxRecDepth 100000 in
theorem edits_wide (v : Value) (l : List Edit) (w : World) (hv : Rec w.heap.size w v 2 editCells l) (h20 : l.length ≤ 20) (n : Nat) (hn : n < l.length) (hln : 200 < (l[n]).2.size) (hls : ∀ k, (h : k < l.length) → l[k].2.size ≤ maxLen) :
    Calls Try.prog 10 #[v] w fun e w' => e = .returned (.tuple #[.slice none 0 0, .bool false]) ∧ Below w.heap.size w w' := by
  unfold maxLen at hls
  obtain ⟨i0, hi, hz0, hz1, hz2⟩ := info_parts Try.infoREdit
  obtain ⟨ao, cap, rfl, hcap, hf⟩ := hv.form (fun _ => rfl)
  go_enter Try.func10, Try.ntmps10
  go_wp2
  go_loopw [4, 12] (fun out i wr => ∃ k : Nat, k ≤ n ∧ i = .int .i64 k ∧ wr.ownsRow w.heap.size 71 2 out k ((l.take k).flatMap editCells) ∧ Below w.heap.size w wr) (fun _ i _ => l.length - (intOf i).toNat)
  case atStart => exact ⟨0, Nat.zero_le _, rfl, World.ownsRow_nil _ _ _ _, Below.refl _ _⟩
  case round =>
    obtain ⟨k, hk, rfl, hown, hbl⟩ := hrel
    have hz := hbl.size
    have hlt : k < l.length := by omega
    obtain ⟨b, off, rfl, hb, hcell⟩ := hf (by omega)
    have hx0 := (hbl.cell (p := ⟨b, off + k * 2, none⟩) hb).trans (hcell k 0 _ hlt rfl)
    have hx1 := (hbl.cell (p := ⟨b, off + k * 2 + 1, none⟩) hb).trans (hcell k 1 _ hlt rfl)
    have hlk := hls k hlt
    have hsn := take_snoc l k hlt
    have hkn : k = n → 200 < (l[k]).2.size := fun e => by subst e; exact hln
    clear hln hcell hls hf
    generalize l[k] = e at hx0 hx1 hsn hlk hkn
    obtain ⟨e0, e1⟩ := e
    simp only at hx0 hx1 hlk hkn
    have HS := Lib.hid hsn
    have HK := Lib.hid hkn
    clear hsn hkn
    by_cases hbig : 200 < e1.size
    · go_wp2
      go_ret2
      exact ⟨rfl, hbl.alloc hz _⟩
    · have hkn : k < n := by
        rcases Nat.lt_or_ge k n with h | h
        · exact h
        · exact absurd (HK.out (by omega)) hbig
      go_wp2_with (at_builtin; refine wpList_append_own _ rfl _ _ 32 rfl w.heap.size 71 i0 (.agg #[.int .i64 0, .string ByteArray.empty]) 2 24 Try.underlying32 hi hz0 hz1 hz2 rfl (by decide) _ _ _ rfl ((hown.alloc _).alloc _) ⟨wr.heap.size + 1, 0, none⟩ 1 1 [.int .i64 e0, .string e1] rfl rfl ?c1 ?c2 ?c3 ?c4 ?c5 ?_)
      case c1 => exact cells_two (by go_simp) (by go_simp)
      case c2 => intro u hu; simp at hu; rcases hu with rfl | rfl <;> rfl
      case c3 => unfold maxLen; omega
      case c4 => omega
      case c5 => simp; omega
      intro v' w2 hown' hgrow _
      have hb2 : Below w.heap.size w w2 := ((hbl.alloc hz _).alloc (by simp; omega) _).grown hgrow (by simp; omega) (fun q hq => (hown.lt q hq).1)
      have hown2 : w2.ownsRow w.heap.size 71 2 v' (k + 1) ((l.take (k + 1)).flatMap editCells) := by
        rw [HS.out, List.flatMap_append]
        exact hown'
      clear hgrow hown hown'
      go_wp2
      go_roundw
      case rel => exact ⟨k + 1, by omega, by go_num, hown2, hb2⟩
      case measure => simp [intOf]; omega

set_option maxHeartbeats 1000000 in
set_option maxRecDepth 100000 in
theorem refRight_any (s : ByteArray) (v : Value) (l : List Edit) (w : World)
    (hs : s.size ≤ 1099511627776) (hl : l.length ≤ 1099511627776) (hls : ∀ k, (h : k < l.length) → l[k].2.size ≤ 1099511627776)
    (hv : Rec w.heap.size w v 2 editCells l) :
    Calls Try.prog 11 #[.string s, v] w fun e w' => e = .returned (.bool (rightB s.size 0 s.size l)) ∧ w = w' := by
  obtain ⟨ao, cap, rfl, hcap, hf⟩ := hv.form (fun _ => rfl)
  clear hv
  go_enter Try.func11, Try.ntmps11
  go_wp2
  go_loop [5, 6, 7] (fun la sz i => ∃ k : Nat, k ≤ l.length ∧ i = .int .i64 k ∧ ∃ a c : Int, la = .int .i64 a ∧ sz = .int .i64 c ∧ 0 ≤ c ∧ c ≤ 1099511627776 ∧
      rightB s.size a c (l.drop k) = rightB s.size 0 s.size l) (fun _ _ i => l.length - (intOf i).toNat)
  case atStart => exact ⟨0, Nat.zero_le _, rfl, 0, s.size, rfl, rfl, by omega, by omega, rfl⟩
  case round =>
    obtain ⟨k, hk, rfl, a, c, rfl, rfl, hc1, hc2, hR⟩ := hrel
    by_cases hlt : k < l.length
    · obtain ⟨b, off, rfl, hb, hcell⟩ := hf (by omega)
      have hx0 := hcell k 0 _ hlt rfl
      have hx1 := hcell k 1 _ hlt rfl
      rw [Nat.add_zero] at hx0
      have he1 := hls k hlt
      rw [List.drop_eq_getElem_cons hlt] at hR
      generalize l[k] = e at hx0 hx1 he1 hR
      obtain ⟨e0, e1⟩ := e
      simp only at hx0 hx1 he1
      have HR := Lib.hid hR
      clear hcell hls hf hR
      go_wp2
      · have h1 : e0 < a := by assumption
        go_ret
        exact ⟨ret_bool (by rw [← HR.out, rightB, if_pos h1]), rfl⟩
      · have h1 : ¬ e0 < a := by omega
        have h2 : (s.size : Int) < e0 := by assumption
        go_ret
        exact ⟨ret_bool (by rw [← HR.out, rightB, if_neg h1, if_pos h2]), rfl⟩
      · have h1 : ¬ e0 < a := by omega
        have h2 : ¬ (s.size : Int) < e0 := by omega
        have h3 : ((e1.size : Int) == 0) = true := by assumption
        have h3 : e1.toList.isEmpty = true := by rw [isEmpty_size]; exact decide_eq_true (by have := beq_iff_eq.1 h3; omega)
        go_ret
        exact ⟨ret_bool (by rw [← HR.out, rightB, if_neg h1, if_neg h2, if_pos h3]), rfl⟩
      · have h1 : ¬ e0 < a := by omega
        have h2 : ¬ (s.size : Int) < e0 := by omega
        have h3 : ((e1.size : Int) == 0) = false := by assumption
        have h3 : ¬ e1.toList.isEmpty = true := by rw [isEmpty_size]; intro h; have := of_decide_eq_true h; have := beq_eq_false_iff_ne.1 h3; omega
        have h4 : 65536 < c + e1.size := by assumption
        go_ret
        exact ⟨ret_bool (by rw [← HR.out, rightB, if_neg h1, if_neg h2, if_neg h3, if_pos h4]), rfl⟩
      · have h1 : ¬ e0 < a := by omega
        have h2 : ¬ (s.size : Int) < e0 := by omega
        have h3 : ((e1.size : Int) == 0) = false := by assumption
        have h3 : ¬ e1.toList.isEmpty = true := by rw [isEmpty_size]; intro h; have := of_decide_eq_true h; have := beq_eq_false_iff_ne.1 h3; omega
        have h4 : ¬ 65536 < c + e1.size := by omega
        go_round
        case rel => exact ⟨k + 1, by omega, by go_num, e0, c + e1.size, rfl, rfl, by omega, by omega, by rw [← HR.out, rightB, if_neg h1, if_neg h2, if_neg h3, if_neg h4]⟩
        case measure => simp [intOf]; omega
    · have hkl : k = l.length := by omega
      have HR := Lib.hid hR
      clear hR hf
      go_wp2
      go_ret
      exact ⟨ret_bool (by rw [← HR.out, hkl, List.drop_length, rightB]), rfl⟩
end Go.Proofs.Ytofbhdpcpoclaaa
