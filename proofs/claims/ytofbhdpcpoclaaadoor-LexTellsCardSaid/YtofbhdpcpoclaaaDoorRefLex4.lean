/- The walk of the reference's token. -/
import Derived.Test.YtofbhdpcpoclaaaDoorRefLex3
namespace Go.Proofs.YtofbhdpcpoclaaaDoor
open Go.RowKit

/-- What the reference's token gives at place p. -/
def refTok (p : Nat) (t : Nat × Nat × Nat) : Value := .tuple #[.int .i64 t.1, .int .i64 (if t.2.2 = 0 then p + t.2.1 else 0 : Nat), .int .i64 t.2.2]

theorem ret_refTok {p : Nat} {t : Nat × Nat × Nat} {a b c : Int} (h1 : a = t.1) (h2 : b = ((if t.2.2 = 0 then p + t.2.1 else 0 : Nat) : Int)) (h3 : c = t.2.2) : Ending.returned (.tuple #[.int .i64 a, .int .i64 b, .int .i64 c]) = .returned (refTok p t) := by
  rw [refTok, h1, h2, h3]

/-- A truth is handed back; what was there is as it was. -/
def BoolPost (b : Bool) (w : World) (e : Ending) (w' : World) : Prop := e = .returned (.bool b) ∧ Below w.heap.size w w'

theorem tw_step {q : UInt8 → Bool} {s : ByteArray} {p m N : Nat} (hN : ((s.data.toList.drop p).takeWhile q).length = N) (hm : m < s.size) (hp : p ≤ m) (hle : m ≤ p + N) : m < p + N ↔ q (s[m]'hm) = true := by
  subst hN
  obtain ⟨k, rfl⟩ : ∃ k, m = p + k := ⟨m - p, by omega⟩
  have := take_more q (s.data.toList.drop p) k (by omega)
  rw [List.getElem?_drop, byte_is hm] at this
  constructor
  · intro h
    obtain ⟨c, h1, h2⟩ := this.1 (by omega)
    injection h1 with h1
    rw [h1]; exact h2
  · intro h
    have := this.2 ⟨_, rfl, h⟩
    omega

theorem tw_piece {q : UInt8 → Bool} {s : ByteArray} {p N : Nat} (hN : ((s.data.toList.drop p).takeWhile q).length = N) : (s.extract p (p + N)).data.toList = (s.data.toList.drop p).takeWhile q := by
  rw [extract_list, List.drop_take, Nat.add_sub_cancel_left, ← hN]
  exact (List.prefix_iff_eq_take.1 (List.takeWhile_prefix q)).symm

theorem tw_len (q : UInt8 → Bool) (s : ByteArray) (p : Nat) : ((s.data.toList.drop p).takeWhile q).length ≤ s.size - p := by
  have := takeWhile_le q (s.data.toList.drop p)
  rwa [List.length_drop, ← Lib.size_eq] at this

set_option maxHeartbeats 2000000 in
set_option maxRecDepth 100000 in
theorem refToken_word (s : ByteArray) (p : Nat) (w : World) (hs : s.size ≤ 1099511627776) (hp : p < s.size) (hl : letterB (s[p]'hp) = true) :
    Calls Tryd.prog 14 #[.string s, .int .i64 p] w fun e w' => e = .returned (refTok p (tokF (s.data.toList.drop p))) ∧ Below w.heap.size w w' := by
  have hq : tokF (s.data.toList.drop p) = wordF (s.data.toList.drop p) := by rw [drop_byte hp, tokF, if_pos hl]
  have HQ := Lib.hid hq
  have hn := tw_len insideB s p
  generalize hN : ((s.data.toList.drop p).takeWhile insideB).length = N at hn
  have HN := Lib.hid hN
  clear hq hN
  go_enter Tryd.func14, Tryd.ntmps14
  go_wp2_with (go_at_call 26; refine (refLetter_any _ _).mono ?_; rintro e w1 ⟨rfl, rfl⟩)
  go_loop [7] (fun a => ∃ m : Nat, p ≤ m ∧ m ≤ p + N ∧ a = .int .i64 m) (fun a => s.size - (intOf a).toNat)
  case atStart => exact ⟨p, Nat.le_refl _, by omega, rfl⟩
  case round =>
    obtain ⟨m, hpm, hm, rfl⟩ := hrel
    clear hl
    by_cases hlt : m < s.size
    · have hst := tw_step (q := insideB) HN.out hlt hpm hm
      have hI : (m : Int) < ↑s.size := by omega
      by_cases hin : insideB (s[m]'hlt) = true
      · have hlt2 : m + 1 ≤ p + N := hst.2 hin
        cases hL : letterB (s[m]'hlt) with
        | true =>
          clear hst hin
          go_wp2_with (go_at_call 26; refine (refLetter_any _ _).mono ?_; rintro e w1 ⟨rfl, rfl⟩)
          go_round
          case rel => exact ⟨m + 1, by omega, by omega, by go_num⟩
          case measure => simp [intOf]; omega
        | false =>
          cases hD : digitB (s[m]'hlt) with
          | true =>
            clear hst hin
            go_wp2_with (first | (go_at_call 26; refine (refLetter_any _ _).mono ?_; rintro e w1 ⟨rfl, rfl⟩) | (go_at_call 27; refine (refDigit_any _ _).mono ?_; rintro e w1 ⟨rfl, rfl⟩))
            go_round
            case rel => exact ⟨m + 1, by omega, by omega, by go_num⟩
            case measure => simp [intOf]; omega
          | false =>
            have t1 : (((s[m]'hlt).toNat : Int) == 95) = true := by
              rw [insideB, hL, hD, Bool.false_or, Bool.false_or, u8_eq] at hin
              exact hin
            clear hst hin
            go_wp2_with (first | (go_at_call 26; refine (refLetter_any _ _).mono ?_; rintro e w1 ⟨rfl, rfl⟩) | (go_at_call 27; refine (refDigit_any _ _).mono ?_; rintro e w1 ⟨rfl, rfl⟩))
            go_round
            case rel => exact ⟨m + 1, by omega, by omega, by go_num⟩
            case measure => simp [intOf]; omega
      · have hin' : insideB (s[m]'hlt) = false := by simpa using hin
        have hmN : m = p + N := by
          rcases Nat.lt_or_ge m (p + N) with h | h
          · exact absurd (hst.1 h) hin
          · omega
        rw [insideB] at hin'
        simp only [Bool.or_eq_false_iff] at hin'
        obtain ⟨⟨hL, hD⟩, hU⟩ := hin'
        rw [u8_eq] at hU
        have t1 : (((s[m]'hlt).toNat : Int) == 95) = false := hU
        clear hin hU
        subst hmN
        by_cases h40 : 40 < N
        · have hw : wordF (s.data.toList.drop p) = (0, 0, 20) := by
            unfold wordF
            exact if_pos (by rw [HN.out]; exact h40)
          have HW := Lib.hid (HQ.out.trans hw)
          have hd : (40 : Int) < ((p + N : Nat) : Int) - (p : Int) := by omega
          clear hw hst
          go_wp2_with (first | (go_at_call 26; refine (refLetter_any _ _).mono ?_; rintro e w1 ⟨rfl, rfl⟩) | (go_at_call 27; refine (refDigit_any _ _).mono ?_; rintro e w1 ⟨rfl, rfl⟩))
          go_ret3
          refine ⟨ret_refTok (t := tokF (s.data.toList.drop p)) ?_ ?_ ?_, Below.refl _ _⟩ <;> rw [HW.out] <;> rfl
        · have hw : wordF (s.data.toList.drop p) = if (s.data.toList.drop p).takeWhile insideB ∈ keyL then (2, N, 0) else (1, N, 0) := by
            unfold wordF
            simp only [HN.out]
            rw [if_neg h40]
          have hd : ((p + N : Nat) : Int) - (p : Int) ≤ 40 := by omega
          have hd2 : (p : Int) ≤ ((p + N : Nat) : Int) := by omega
          have hd3 : ((p + N : Nat) : Int) ≤ (s.size : Int) := by omega
          have hk : ∀ w, Calls Tryd.prog 28 #[.string (s.extract p (p + N))] w (BoolPost (decide ((s.extract p (p + N)).data.toList ∈ keyL)) w) := refKey_any (s.extract p (p + N))
          rw [tw_piece HN.out] at hk
          have HK := Lib.hid hk
          by_cases hkey : (s.data.toList.drop p).takeWhile insideB ∈ keyL
          · rw [if_pos hkey] at hw
            have HW := Lib.hid (HQ.out.trans hw)
            have HY := Lib.hid hkey
            clear hw hk hkey hst
            go_wp2_with (first | (go_at_call 26; refine (refLetter_any _ _).mono ?_; rintro e w1 ⟨rfl, rfl⟩) | (go_at_call 27; refine (refDigit_any _ _).mono ?_; rintro e w1 ⟨rfl, rfl⟩) | (go_at_call 28; refine (HK.out _).mono ?_))
            rintro e w2 ⟨he, hb⟩
            obtain rfl : e = .returned (.bool true) := by rw [he, decide_eq_true HY.out]
            clear he
            go_wp2
            go_ret3
            refine ⟨ret_refTok (t := tokF (s.data.toList.drop p)) ?_ ?_ ?_, hb⟩ <;> rw [HW.out] <;> rfl
          · rw [if_neg hkey] at hw
            have HW := Lib.hid (HQ.out.trans hw)
            have HY := Lib.hid hkey
            clear hw hk hkey hst
            go_wp2_with (first | (go_at_call 26; refine (refLetter_any _ _).mono ?_; rintro e w1 ⟨rfl, rfl⟩) | (go_at_call 27; refine (refDigit_any _ _).mono ?_; rintro e w1 ⟨rfl, rfl⟩) | (go_at_call 28; refine (HK.out _).mono ?_))
            rintro e w2 ⟨he, hb⟩
            obtain rfl : e = .returned (.bool false) := by rw [he, decide_eq_false HY.out]
            clear he
            go_wp2
            go_ret3
            refine ⟨ret_refTok (t := tokF (s.data.toList.drop p)) ?_ ?_ ?_, hb⟩ <;> rw [HW.out] <;> rfl
    · have hmN : m = p + N := by omega
      have hI : decide ((m : Int) < ↑s.size) = false := decide_eq_false (by omega)
      have hst := trivial
      subst hmN
      by_cases h40 : 40 < N
      · have hw : wordF (s.data.toList.drop p) = (0, 0, 20) := by
          unfold wordF
          exact if_pos (by rw [HN.out]; exact h40)
        have HW := Lib.hid (HQ.out.trans hw)
        have hd : (40 : Int) < ((p + N : Nat) : Int) - (p : Int) := by omega
        clear hw hst
        go_wp2
        go_ret3
        refine ⟨ret_refTok (t := tokF (s.data.toList.drop p)) ?_ ?_ ?_, Below.refl _ _⟩ <;> rw [HW.out] <;> rfl
      · have hw : wordF (s.data.toList.drop p) = if (s.data.toList.drop p).takeWhile insideB ∈ keyL then (2, N, 0) else (1, N, 0) := by
          unfold wordF
          simp only [HN.out]
          rw [if_neg h40]
        have hd : ((p + N : Nat) : Int) - (p : Int) ≤ 40 := by omega
        have hd2 : (p : Int) ≤ ((p + N : Nat) : Int) := by omega
        have hd3 : ((p + N : Nat) : Int) ≤ (s.size : Int) := by omega
        have hk : ∀ w, Calls Tryd.prog 28 #[.string (s.extract p (p + N))] w (BoolPost (decide ((s.extract p (p + N)).data.toList ∈ keyL)) w) := refKey_any (s.extract p (p + N))
        rw [tw_piece HN.out] at hk
        have HK := Lib.hid hk
        by_cases hkey : (s.data.toList.drop p).takeWhile insideB ∈ keyL
        · rw [if_pos hkey] at hw
          have HW := Lib.hid (HQ.out.trans hw)
          have HY := Lib.hid hkey
          clear hw hk hkey hst
          go_wp2_with (first | (go_at_call 28; refine (HK.out _).mono ?_))
          rintro e w2 ⟨he, hb⟩
          obtain rfl : e = .returned (.bool true) := by rw [he, decide_eq_true HY.out]
          clear he
          go_wp2
          go_ret3
          refine ⟨ret_refTok (t := tokF (s.data.toList.drop p)) ?_ ?_ ?_, hb⟩ <;> rw [HW.out] <;> rfl
        · rw [if_neg hkey] at hw
          have HW := Lib.hid (HQ.out.trans hw)
          have HY := Lib.hid hkey
          clear hw hk hkey hst
          go_wp2_with (first | (go_at_call 28; refine (HK.out _).mono ?_))
          rintro e w2 ⟨he, hb⟩
          obtain rfl : e = .returned (.bool false) := by rw [he, decide_eq_false HY.out]
          clear he
          go_wp2
          go_ret3
          refine ⟨ret_refTok (t := tokF (s.data.toList.drop p)) ?_ ?_ ?_, hb⟩ <;> rw [HW.out] <;> rfl
end Go.Proofs.YtofbhdpcpoclaaaDoor
