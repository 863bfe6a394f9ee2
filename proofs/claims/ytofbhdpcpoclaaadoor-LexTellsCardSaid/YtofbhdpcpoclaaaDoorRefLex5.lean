/- The walk of the reference's token: numbers and signs; all of it. -/
import Derived.Test.YtofbhdpcpoclaaaDoorRefLex4
namespace Go.Proofs.YtofbhdpcpoclaaaDoor
open Go.RowKit

set_option maxHeartbeats 2000000 in
set_option maxRecDepth 100000 in
theorem refToken_num (s : ByteArray) (p : Nat) (w : World) (hs : s.size ≤ 1099511627776) (hp : p < s.size) (hl : letterB (s[p]'hp) = false) (hdg : digitB (s[p]'hp) = true) :
    Calls Tryd.prog 14 #[.string s, .int .i64 p] w fun e w' => e = .returned (refTok p (tokF (s.data.toList.drop p))) ∧ Below w.heap.size w w' := by
  have hq : tokF (s.data.toList.drop p) = numF (s.data.toList.drop p) := by rw [drop_byte hp, tokF, if_neg (by rw [hl]; decide), if_pos hdg]
  have hf : ((s.data.toList.drop p).takeWhile digitB)[0]? = some (s[p]'hp) := by rw [drop_byte hp, List.takeWhile_cons_of_pos hdg]; rfl
  have HQ := Lib.hid hq
  have HF := Lib.hid hf
  have hn := tw_len digitB s p
  generalize hN : ((s.data.toList.drop p).takeWhile digitB).length = N at hn
  have HN := Lib.hid hN
  clear hq hN hf
  go_enter Tryd.func14, Tryd.ntmps14
  go_wp2_with (first | (go_at_call 26; refine (refLetter_any _ _).mono ?_; rintro e w1 ⟨rfl, rfl⟩) | (go_at_call 27; refine (refDigit_any _ _).mono ?_; rintro e w1 ⟨rfl, rfl⟩))
  go_loop [7] (fun a => ∃ m : Nat, p ≤ m ∧ m ≤ p + N ∧ a = .int .i64 m) (fun a => s.size - (intOf a).toNat)
  case atStart => exact ⟨p, Nat.le_refl _, by omega, rfl⟩
  case round =>
    obtain ⟨m, hpm, hm, rfl⟩ := hrel
    clear hl hdg
    by_cases hlt : m < s.size
    · have hst := tw_step (q := digitB) HN.out hlt hpm hm
      have hI : (m : Int) < ↑s.size := by omega
      by_cases hD : digitB (s[m]'hlt) = true
      · have hlt2 : m + 1 ≤ p + N := hst.2 hD
        clear hst
        go_wp2_with (first | (go_at_call 27; refine (refDigit_any _ _).mono ?_; rintro e w1 ⟨rfl, rfl⟩))
        go_round
        case rel => exact ⟨m + 1, by omega, by omega, by go_num⟩
        case measure => simp [intOf]; omega
      · have hD' : digitB (s[m]'hlt) = false := by simpa using hD
        have hmN : m = p + N := by
          rcases Nat.lt_or_ge m (p + N) with h | h
          · exact absurd (hst.1 h) hD
          · omega
        clear hD
        subst hmN
        by_cases h60 : 60 < N
        · have hw : numF (s.data.toList.drop p) = (0, 0, 21) := by
            unfold numF
            exact if_pos (.inl (by rw [HN.out]; exact h60))
          have HW := Lib.hid (HQ.out.trans hw)
          have hd : decide (60 < (p : Int) + (N : Int) - (p : Int)) = true := decide_eq_true (by omega)
          clear hw hst
          go_wp2_with (first | (go_at_call 27; refine (refDigit_any _ _).mono ?_; rintro e w1 ⟨rfl, rfl⟩))
          go_ret3
          refine ⟨ret_refTok (t := tokF (s.data.toList.drop p)) ?_ ?_ ?_, Below.refl _ _⟩ <;> rw [HW.out] <;> rfl
        · have hd : ((p + N : Nat) : Int) - (p : Int) ≤ 60 := by omega
          have hd' : decide (60 < (p : Int) + (N : Int) - (p : Int)) = false := decide_eq_false (by omega)
          by_cases h1 : 1 < N
          · have hd1 : decide (1 < (p : Int) + (N : Int) - (p : Int)) = true := decide_eq_true (by omega)
            by_cases h0 : (s[p]'hp) = 48
            · have hw : numF (s.data.toList.drop p) = (0, 0, 21) := by
                unfold numF
                exact if_pos (.inr ⟨by rw [HN.out]; exact h1, by rw [HF.out, h0]⟩)
              have HW := Lib.hid (HQ.out.trans hw)
              have t0 : (((s[p]'hp).toNat : Int) == 48) = true := by rw [h0]; rfl
              clear hw hst h0
              go_wp2_with (first | (go_at_call 27; refine (refDigit_any _ _).mono ?_; rintro e w1 ⟨rfl, rfl⟩))
              go_ret3
              refine ⟨ret_refTok (t := tokF (s.data.toList.drop p)) ?_ ?_ ?_, Below.refl _ _⟩ <;> rw [HW.out] <;> rfl
            · have hw : numF (s.data.toList.drop p) = (3, N, 0) := by
                unfold numF
                simp only [HN.out]
                refine if_neg ?_
                rintro (h | ⟨_, h⟩)
                · exact h60 h
                · rw [HF.out] at h; injection h with h; exact h0 h
              have HW := Lib.hid (HQ.out.trans hw)
              have t0 : (((s[p]'hp).toNat : Int) == 48) = false := by
                rw [← Bool.not_eq_true, beq_iff_eq]; intro q
                exact h0 (UInt8.toNat_inj.1 (by have e1 : (48 : UInt8).toNat = 48 := rfl; omega))
              clear hw hst h0
              go_wp2_with (first | (go_at_call 27; refine (refDigit_any _ _).mono ?_; rintro e w1 ⟨rfl, rfl⟩))
              go_ret3
              refine ⟨ret_refTok (t := tokF (s.data.toList.drop p)) ?_ ?_ ?_, Below.refl _ _⟩ <;> rw [HW.out] <;> rfl
          · have hw : numF (s.data.toList.drop p) = (3, N, 0) := by
              unfold numF
              simp only [HN.out]
              refine if_neg ?_
              rintro (h | ⟨h, _⟩)
              · exact h60 h
              · exact h1 h
            have HW := Lib.hid (HQ.out.trans hw)
            have hd1 : decide (1 < (p : Int) + (N : Int) - (p : Int)) = false := decide_eq_false (by omega)
            clear hw hst
            go_wp2_with (first | (go_at_call 27; refine (refDigit_any _ _).mono ?_; rintro e w1 ⟨rfl, rfl⟩))
            go_ret3
            refine ⟨ret_refTok (t := tokF (s.data.toList.drop p)) ?_ ?_ ?_, Below.refl _ _⟩ <;> rw [HW.out] <;> rfl
    · have hmN : m = p + N := by omega
      have hI : decide ((m : Int) < ↑s.size) = false := decide_eq_false (by omega)
      have hst := trivial
      subst hmN
      by_cases h60 : 60 < N
      · have hw : numF (s.data.toList.drop p) = (0, 0, 21) := by
          unfold numF
          exact if_pos (.inl (by rw [HN.out]; exact h60))
        have HW := Lib.hid (HQ.out.trans hw)
        have hd : decide (60 < (p : Int) + (N : Int) - (p : Int)) = true := decide_eq_true (by omega)
        clear hw hst
        go_wp2
        go_ret3
        refine ⟨ret_refTok (t := tokF (s.data.toList.drop p)) ?_ ?_ ?_, Below.refl _ _⟩ <;> rw [HW.out] <;> rfl
      · have hd : ((p + N : Nat) : Int) - (p : Int) ≤ 60 := by omega
        have hd' : decide (60 < (p : Int) + (N : Int) - (p : Int)) = false := decide_eq_false (by omega)
        by_cases h1 : 1 < N
        · have hd1 : decide (1 < (p : Int) + (N : Int) - (p : Int)) = true := decide_eq_true (by omega)
          by_cases h0 : (s[p]'hp) = 48
          · have hw : numF (s.data.toList.drop p) = (0, 0, 21) := by
              unfold numF
              exact if_pos (.inr ⟨by rw [HN.out]; exact h1, by rw [HF.out, h0]⟩)
            have HW := Lib.hid (HQ.out.trans hw)
            have t0 : (((s[p]'hp).toNat : Int) == 48) = true := by rw [h0]; rfl
            clear hw hst h0
            go_wp2
            go_ret3
            refine ⟨ret_refTok (t := tokF (s.data.toList.drop p)) ?_ ?_ ?_, Below.refl _ _⟩ <;> rw [HW.out] <;> rfl
          · have hw : numF (s.data.toList.drop p) = (3, N, 0) := by
              unfold numF
              simp only [HN.out]
              refine if_neg ?_
              rintro (h | ⟨_, h⟩)
              · exact h60 h
              · rw [HF.out] at h; injection h with h; exact h0 h
            have HW := Lib.hid (HQ.out.trans hw)
            have t0 : (((s[p]'hp).toNat : Int) == 48) = false := by
              rw [← Bool.not_eq_true, beq_iff_eq]; intro q
              exact h0 (UInt8.toNat_inj.1 (by have e1 : (48 : UInt8).toNat = 48 := rfl; omega))
            clear hw hst h0
            go_wp2
            go_ret3
            refine ⟨ret_refTok (t := tokF (s.data.toList.drop p)) ?_ ?_ ?_, Below.refl _ _⟩ <;> rw [HW.out] <;> rfl
        · have hw : numF (s.data.toList.drop p) = (3, N, 0) := by
            unfold numF
            simp only [HN.out]
            refine if_neg ?_
            rintro (h | ⟨h, _⟩)
            · exact h60 h
            · exact h1 h
          have HW := Lib.hid (HQ.out.trans hw)
          have hd1 : decide (1 < (p : Int) + (N : Int) - (p : Int)) = false := decide_eq_false (by omega)
          clear hw hst
          go_wp2
          go_ret3
          refine ⟨ret_refTok (t := tokF (s.data.toList.drop p)) ?_ ?_ ?_, Below.refl _ _⟩ <;> rw [HW.out] <;> rfl

set_option maxHeartbeats 2000000 in
set_option maxRecDepth 100000 in
theorem refToken_sym (s : ByteArray) (p : Nat) (w : World) (hs : s.size ≤ 1099511627776) (hp : p < s.size) (hl : letterB (s[p]'hp) = false) (hdg : digitB (s[p]'hp) = false) :
    Calls Tryd.prog 14 #[.string s, .int .i64 p] w fun e w' => e = .returned (refTok p (tokF (s.data.toList.drop p))) ∧ Below w.heap.size w w' := by
  have hq : tokF (s.data.toList.drop p) = symF (s.data.toList.drop p) := by rw [drop_byte hp, tokF, if_neg (by rw [hl]; decide), if_neg (by rw [hdg]; decide)]
  have hz := refSign_any s p w hs hp
  have hlen : signLen (s.data.toList.drop p) ≤ s.size - p := by
    unfold signLen
    cases hf : signF (s.data.toList.drop p) with
    | none => exact Nat.zero_le _
    | some x =>
      have := (signF_some hf).1.length_le
      rwa [List.length_drop, ← Lib.size_eq] at this
  have hsy : symF (s.data.toList.drop p) = if signLen (s.data.toList.drop p) = 0 then (0, 0, 20) else (4, signLen (s.data.toList.drop p), 0) := by
    unfold symF signLen
    cases hf : signF (s.data.toList.drop p) with
    | none => rfl
    | some x =>
      have := (signF_some hf).2.1
      simp only
      rw [if_neg (by omega)]
  generalize signLen (s.data.toList.drop p) = n at hz hlen hsy
  have HZ := Lib.hid hz
  clear hz
  by_cases h0 : n = 0
  · have HW := Lib.hid (hq.trans (hsy.trans (if_pos h0)))
    subst h0
    clear hq hsy
    go_enter Tryd.func14, Tryd.ntmps14
    go_wp2_with (first | (go_at_call 26; refine (refLetter_any _ _).mono ?_; rintro e w1 ⟨rfl, rfl⟩) | (go_at_call 27; refine (refDigit_any _ _).mono ?_; rintro e w1 ⟨rfl, rfl⟩) | (go_at_call 29; refine HZ.out.mono ?_; rintro e w1 ⟨rfl, hb⟩))
    go_ret3
    refine ⟨ret_refTok (t := tokF (s.data.toList.drop p)) ?_ ?_ ?_, hb⟩ <;> rw [HW.out] <;> rfl
  · have HW := Lib.hid (hq.trans (hsy.trans (if_neg h0)))
    have t0 : ((n : Int) == 0) = false := by rw [← Bool.not_eq_true, beq_iff_eq]; omega
    clear hq hsy h0
    go_enter Tryd.func14, Tryd.ntmps14
    go_wp2_with (first | (go_at_call 26; refine (refLetter_any _ _).mono ?_; rintro e w1 ⟨rfl, rfl⟩) | (go_at_call 27; refine (refDigit_any _ _).mono ?_; rintro e w1 ⟨rfl, rfl⟩) | (go_at_call 29; refine HZ.out.mono ?_; rintro e w1 ⟨rfl, hb⟩))
    go_ret3
    refine ⟨ret_refTok (t := tokF (s.data.toList.drop p)) ?_ ?_ ?_, hb⟩ <;> rw [HW.out] <;> rfl

theorem refToken_any (s : ByteArray) (p : Nat) (w : World) (hs : s.size ≤ 1099511627776) (hp : p < s.size) :
    Calls Tryd.prog 14 #[.string s, .int .i64 p] w fun e w' => e = .returned (refTok p (tokF (s.data.toList.drop p))) ∧ Below w.heap.size w w' := by
  cases hl : letterB (s[p]'hp) with
  | true => exact refToken_word s p w hs hp hl
  | false =>
    cases hd : digitB (s[p]'hp) with
    | true => exact refToken_num s p w hs hp hl hd
    | false => exact refToken_sym s p w hs hp hl hd
end Go.Proofs.YtofbhdpcpoclaaaDoor
