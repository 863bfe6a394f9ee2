/- The walk of the reference's Lines. -/
import Derived.Test.YtofbhdpcpoclaaaLinesW
namespace Go.Proofs.Ytofbhdpcpoclaaa
open Go.RowKit

def RefLinesOk (s : ByteArray) (w : World) (e : Ending) (w' : World) : Prop :=
  ∃ (v : Value) (bl : List ByteArray), e = .returned v ∧ Rec w'.heap.size w' v 1 strCell bl ∧ bl.map (·.data.toList) = lines s.data.toList ∧ bl.length ≤ s.size + 1 ∧ Below w.heap.size w w'

/-- The round's state: the lines before 'last' are told, none ends between 'last' and i. -/
def LS (s : ByteArray) (bl : List ByteArray) (last i : Nat) : Prop :=
  last ≤ i ∧ i ≤ s.size ∧ bl.length ≤ last ∧ bl.map (·.data.toList) ++ lines (s.data.toList.drop last) = lines s.data.toList ∧ ∀ j : Nat, j < i - last → (s.data.toList.drop last)[j]? ≠ some 10

theorem ls_hit {s : ByteArray} {bl : List ByteArray} {last i : Nat} (h : LS s bl last i) (hi : i < s.size) (hc : s.data.toList[i]? = some 10) : LS s (bl ++ [s.extract last i]) (i + 1) (i + 1) := by
  obtain ⟨h1, h2, h3, h4, h5⟩ := h
  have hcut := lines_cut (i - last) (s.data.toList.drop last) (by rw [List.getElem?_drop, show last + (i - last) = i by omega]; exact hc) h5
  refine ⟨Nat.le_refl _, by omega, by simp; omega, ?_, fun j hj => by omega⟩
  rw [← h4, hcut, List.drop_drop, List.map_append, List.append_assoc, show last + (i - last + 1) = i + 1 by omega]
  simp [Lib.extract_data]

theorem ls_miss {s : ByteArray} {bl : List ByteArray} {last i : Nat} (h : LS s bl last i) (hi : i < s.size) (hc : s.data.toList[i]? ≠ some 10) : LS s bl last (i + 1) := by
  obtain ⟨h1, h2, h3, h4, h5⟩ := h
  refine ⟨by omega, by omega, h3, h4, fun j hj => ?_⟩
  rcases Nat.lt_or_ge j (i - last) with h' | h'
  · exact h5 j h'
  · rw [List.getElem?_drop, show last + j = i by omega]
    exact hc

theorem ls_end {s : ByteArray} {bl : List ByteArray} {last : Nat} (h : LS s bl last s.size) : (bl ++ [s.extract last s.size]).map (·.data.toList) = lines s.data.toList := by
  obtain ⟨h1, h2, h3, h4, h5⟩ := h
  rw [lines_none _ (fun j => by
    rcases Nat.lt_or_ge j (s.size - last) with h' | h'
    · exact h5 j h'
    · rw [List.getElem?_drop, List.getElem?_eq_none (by rw [size_list]; omega)]
      simp)] at h4
  rw [← h4, List.map_append, List.map_singleton, extract_end]

theorem byte_at {s : ByteArray} {i : Nat} (hi : i < s.size) : s.data.toList[i]? = some (s[i]'hi) := by
  rw [List.getElem?_eq_getElem (by rw [size_list]; exact hi)]
  rfl
theorem byte_ten {s : ByteArray} {i : Nat} (hi : i < s.size) (h : (((s[i]'hi).toNat : Int) == 10) = true) : s.data.toList[i]? = some 10 := by
  rw [byte_at hi]
  congr 1
  have := beq_iff_eq.1 h
  apply UInt8.toNat_inj.1
  show _ = 10
  omega
theorem byte_not {s : ByteArray} {i : Nat} (hi : i < s.size) (h : (((s[i]'hi).toNat : Int) == 10) = false) : s.data.toList[i]? ≠ some 10 := by
  rw [byte_at hi]
  intro e
  injection e with e
  rw [e] at h
  cases h

set_option maxHeartbeats 1000000 in
set_option maxRecDepth 100000 in
theorem refLines_any (s : ByteArray) (w : World) (hs : s.size ≤ 1099511627776) :
    Calls Try.prog 16 #[.string s] w (RefLinesOk s w) := by
  obtain ⟨i0, hi, hz0, hz1, hz2⟩ := info_parts Try.infoString
  go_enter Try.func16, Try.ntmps16
  go_wp2
  go_loopw [3, 4, 5] (fun out la ii wr => ∃ (i last : Nat) (bl : List ByteArray), ii = .int .i64 i ∧ la = .int .i64 last ∧ LS s bl last i ∧ wr.ownsRow w.heap.size 9 1 out bl.length (bl.flatMap strCell) ∧ Below w.heap.size w wr) (fun _ _ ii _ => s.size - (intOf ii).toNat)
  case atStart => exact ⟨0, 0, [], rfl, rfl, ⟨by omega, by omega, by simp, by simp, fun j hj => by omega⟩, World.ownsRow_nil _ _ _ _, Below.refl _ _⟩
  case round =>
    obtain ⟨i, last, bl, rfl, rfl, hls, hown, hbl⟩ := hrel
    have hz := hbl.size
    have l1 := hls.1
    have l2 := hls.2.1
    have l3 := hls.2.2.1
    have HL := Lib.hid hls
    clear hls
    by_cases hlt : i < s.size
    · go_wp2_with (at_builtin; refine wpList_append_own _ rfl _ _ 39 rfl w.heap.size 9 i0 (.string ByteArray.empty) 1 16 Try.underlying39 hi hz0 hz1 hz2 rfl (by decide) _ _ _ rfl (hown.alloc _) ⟨wr.heap.size, 0, none⟩ 1 1 [.string (s.extract last i)] rfl rfl ?c1 ?c2 ?c3 ?c4 ?c5 ?_)
      case c1 => exact cells_one (by go_simp)
      case c2 => intro u hu; simp at hu; subst hu; rfl
      case c3 => unfold maxLen; omega
      case c4 => omega
      case c5 => simp; omega
      · intro v' w2 hown' hgrow _
        have hc : (((s[i]'hlt).toNat : Int) == 10) = true := by assumption
        have hst := Lib.hid (ls_hit HL.out hlt (byte_ten hlt hc))
        have hb2 : Below w.heap.size w w2 := (hbl.alloc hz _).grown hgrow (by simp; omega) (fun q hq => (hown.lt q hq).1)
        have hown2 : w2.ownsRow w.heap.size 9 1 v' (bl ++ [s.extract last i]).length ((bl ++ [s.extract last i]).flatMap strCell) := by
          rw [List.flatMap_append, List.length_append]
          exact hown'
        clear hgrow hown hown'
        go_wp2
        go_roundw
        case rel => exact ⟨i + 1, i + 1, _, by go_num, by go_num, hst.out, hown2, hb2⟩
        case measure => simp [intOf]; omega
      · have hc : (((s[i]'hlt).toNat : Int) == 10) = false := by assumption
        have hst := Lib.hid (ls_miss HL.out hlt (byte_not hlt hc))
        go_roundw
        case rel => exact ⟨i + 1, last, bl, by go_num, rfl, hst.out, hown, hbl⟩
        case measure => simp [intOf]; omega
    · have his : i = s.size := by omega
      subst his
      have hst := Lib.hid (ls_end HL.out)
      go_wp2_with (at_builtin; refine wpList_append_own _ rfl _ _ 39 rfl w.heap.size 9 i0 (.string ByteArray.empty) 1 16 Try.underlying39 hi hz0 hz1 hz2 rfl (by decide) _ _ _ rfl (hown.alloc _) ⟨wr.heap.size, 0, none⟩ 1 1 [.string (s.extract last s.size)] rfl rfl ?d1 ?d2 ?d3 ?d4 ?d5 ?_)
      case d1 => exact cells_one (by go_simp)
      case d2 => intro u hu; simp at hu; subst hu; rfl
      case d3 => unfold maxLen; omega
      case d4 => omega
      case d5 => simp; omega
      intro v' w2 hown' hgrow _
      have hb2 : Below w.heap.size w w2 := (hbl.alloc hz _).grown hgrow (by simp; omega) (fun q hq => (hown.lt q hq).1)
      have hown2 : w2.ownsRow w.heap.size 9 1 v' (bl ++ [s.extract last s.size]).length ((bl ++ [s.extract last s.size]).flatMap strCell) := by
        rw [List.flatMap_append, List.length_append]
        exact hown'
      clear hgrow hown hown'
      go_wp2
      go_ret
      exact ⟨_, _, rfl, Sl.ofOwns hown2, hst.out, by simp; omega, hb2⟩
end Go.Proofs.Ytofbhdpcpoclaaa
