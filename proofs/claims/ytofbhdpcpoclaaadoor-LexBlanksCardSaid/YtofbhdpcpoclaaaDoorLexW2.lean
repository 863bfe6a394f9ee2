/- The walks of lex.between and lex.number. -/
import Derived.Test.YtofbhdpcpoclaaaDoorLexW1
namespace Go.Proofs.YtofbhdpcpoclaaaDoor
open Go.RowKit

theorem blankB_set : ∀ c : UInt8, blankB c = ([32, 9, 13, 10] : List UInt8).contains c := by
  intro c
  simp only [blankB, List.contains_cons, List.contains_nil, Bool.or_false, Bool.or_assoc]

theorem trim_any (s : ByteArray) (w : World) : Calls Tryd.prog 17 #[.string s, .string ⟨#[32, 9, 13, 10]⟩] w fun e w' => e = .returned (.string ⟨(s.data.toList.dropWhile blankB).toArray⟩) ∧ Below w.heap.size w w' := by
  have h := Any.strings_TrimLeft_laid Tryd.lays161 (by kernel_rfl) s ⟨#[32, 9, 13, 10]⟩ w (by decide) (ascii_of_all (by decide))
  have e : Lib.trimLeftS s.data.toList (ByteArray.mk #[32, 9, 13, 10]).data.toList = s.data.toList.dropWhile blankB := by
    unfold Lib.trimLeftS
    congr 1
    funext c
    exact (blankB_set c).symm
  rw [e] at h
  exact h

theorem mk_size (T : List UInt8) : (ByteArray.mk T.toArray).size = T.length := by simp [ByteArray.size]

theorem drop_blanks (T : List UInt8) : T.dropWhile blankB = T.drop (T.takeWhile blankB).length := by
  induction T with
  | nil => rfl
  | cons c r ih =>
    by_cases h : blankB c = true
    · rw [List.dropWhile_cons_of_pos h, List.takeWhile_cons_of_pos h, ih]; rfl
    · rw [List.dropWhile_cons_of_neg h, List.takeWhile_cons_of_neg h]; rfl

theorem take_none (T : List UInt8) : (T.dropWhile blankB).takeWhile blankB = [] := by
  cases h : T.dropWhile blankB with
  | nil => rfl
  | cons c r =>
    have := List.head?_dropWhile_not blankB T
    rw [h] at this
    simp only [List.head?_cons] at this
    rw [List.takeWhile_cons_of_neg (by simpa using this)]

theorem pre_one (T : List UInt8) (i : Nat) (h : [45, 45] <+: T) (hi : T[i]? = some 10) : 0 < i := by
  obtain ⟨r, rfl⟩ := h
  cases i with
  | zero => cases hi
  | succ i => omega

set_option maxHeartbeats 1000000 in
set_option maxRecDepth 100000 in
theorem between_any (s : ByteArray) (w : World) (hs : s.size ≤ 1099511627776) :
    Calls Tryd.prog 11 #[.string s] w fun e w' => e = .returned (.string (s.extract 0 (leadF false s.data.toList))) ∧ Below w.heap.size w w' := by
  have hle := leadF_le false s.data.toList
  rw [← Lib.size_eq] at hle
  go_enter Tryd.func11, Tryd.ntmps11
  go_wp2
  go_loopw [3] (fun r wr => ∃ (d : Nat) (x : ByteArray), r = .string x ∧ d ≤ s.size ∧ x.data.toList = s.data.toList.drop d ∧ leadF false s.data.toList = d + leadF false (s.data.toList.drop d) ∧ Below w.heap.size w wr) (fun r _ => strLen r)
  case atStart => exact ⟨0, s, rfl, Nat.zero_le _, rfl, by simp, Below.refl _ _⟩
  case round =>
    obtain ⟨d, x, rfl, hd, hx, hl, hb⟩ := hrel
    have hz := hb.size
    have hxs : x.size = s.size - d := by rw [Lib.size_eq, hx, List.length_drop, ← Lib.size_eq]
    rw [leadF_blanks (s.data.toList.drop d), ← hx] at hl
    have hkl := takeWhile_le blankB x.data.toList
    have hnone := take_none x.data.toList
    have hdrop := drop_blanks x.data.toList
    rw [← Lib.size_eq] at hkl
    generalize hk : (x.data.toList.takeWhile blankB).length = k at hl hkl hdrop
    generalize hy : (ByteArray.mk (x.data.toList.dropWhile blankB).toArray) = y
    have hyl : y.data.toList = x.data.toList.dropWhile blankB := by rw [← hy]
    have hys : y.size = s.size - (d + k) := by rw [Lib.size_eq, hyl, hdrop, List.length_drop, ← Lib.size_eq, hxs]; omega
    rw [← hyl] at hl hnone hdrop
    have HT := Lib.hid (trim_any x wr)
    have HY := Lib.hid hy
    by_cases hp : [45, 45] <+: y.data.toList
    · have hpre : Lib.hasPrefix y.data.toList (ByteArray.mk #[45, 45]).data.toList = true := List.isPrefixOf_iff_prefix.2 hp
      rw [leadF_remark _ hp] at hl
      rcases ten_cases y.data.toList with ⟨h1, h2⟩ | ⟨i, h1, h2, h3, h4⟩
      · have HP := Lib.hid (Tryd.strings_HasPrefix y ⟨#[45, 45]⟩)
        have HI := Lib.hid (Tryd.strings_Index_one y 10)
        have HJ := Lib.hid h1
        rw [leadF_none _ h2, ← Lib.size_eq, hys] at hl
        have HL := Lib.hid hl
        have HB := Lib.hid hpre
        clear hl hy hyl hx hnone hdrop hp hpre hk hle h1 h2
        go_wp2_with (first | (go_at_call 17; refine HT.out.mono ?_; rw [HY.out]; rintro e w1 ⟨rfl, hb1⟩) | (go_at_call 18; refine (HP.out _).mono ?_; rw [HB.out]; rintro e w2 ⟨rfl, rfl⟩) | (go_at_call 19; refine (HI.out _).mono ?_; rw [HJ.out]; rintro e w2 ⟨rfl, rfl⟩))
        go_ret
        exact ⟨ret_str (by rw [HL.out]; exact bytes_ext (by rw [show d + (k + (s.size - (d + k))) = s.size by omega, extract_end]; rfl)), hb.trans (hb1.mono hz)⟩
      · have HP := Lib.hid (Tryd.strings_HasPrefix y ⟨#[45, 45]⟩)
        have HI := Lib.hid (Tryd.strings_Index_one y 10)
        have HJ := Lib.hid h1
        rw [leadF_some i _ h2 h4] at hl
        rw [← Lib.size_eq] at h3
        have hi0 := pre_one _ _ hp h2
        have HL := Lib.hid hl
        have HB := Lib.hid hpre
        have hq : (y.extract i y.size).data.toList = s.data.toList.drop (d + k + i) := by
          rw [extract_end, hdrop, hx, List.drop_drop, List.drop_drop]
          congr 1
          omega
        have hq2 : y.data.toList.drop i = s.data.toList.drop (d + k + i) := by rw [← hq, extract_end]
        have hes : (y.extract i y.size).size = y.size - i := by rw [ByteArray.size_extract]; omega
        rw [hys] at hq hes
        have HQ := Lib.hid hq
        have HQ2 := Lib.hid hq2
        have HES := Lib.hid hes
        clear hl hy hyl hx hnone hdrop hp hpre hk hle h1 h2 h4 hq hq2 hes
        go_wp2_with (first | (go_at_call 17; refine HT.out.mono ?_; rw [HY.out]; rintro e w1 ⟨rfl, hb1⟩) | (go_at_call 18; refine (HP.out _).mono ?_; rw [HB.out]; rintro e w2 ⟨rfl, rfl⟩) | (go_at_call 19; refine (HI.out _).mono ?_; rw [HJ.out]; rintro e w2 ⟨rfl, rfl⟩))
        go_roundw
        case rel => exact ⟨d + k + i, _, rfl, by omega, HQ.out, by rw [HL.out, HQ2.out]; omega, hb.trans (hb1.mono hz)⟩
        case measure => simp only [strLen]; rw [HES.out]; omega
    · have hpre : Lib.hasPrefix y.data.toList (ByteArray.mk #[45, 45]).data.toList = false := by
        cases h : Lib.hasPrefix y.data.toList (ByteArray.mk #[45, 45]).data.toList with
        | false => rfl
        | true => exact absurd (List.isPrefixOf_iff_prefix.1 h) hp
      rw [leadF_stop _ hp hnone, Nat.add_zero] at hl
      have HP := Lib.hid (Tryd.strings_HasPrefix y ⟨#[45, 45]⟩)
      have HL := Lib.hid hl
      have HB := Lib.hid hpre
      clear hl hy hyl hx hnone hdrop hp hpre hk hle
      go_wp2_with (first | (go_at_call 17; refine HT.out.mono ?_; rw [HY.out]; rintro e w1 ⟨rfl, hb1⟩) | (go_at_call 18; refine (HP.out _).mono ?_; rw [HB.out]; rintro e w2 ⟨rfl, rfl⟩))
      go_ret
      exact ⟨ret_str (by rw [HL.out]; congr 1; omega), hb.trans (hb1.mono hz)⟩
end Go.Proofs.YtofbhdpcpoclaaaDoor
