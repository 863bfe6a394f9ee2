/- The walk of lex.token. -/
import Derived.Test.YtofbhdpcpoclaaaDoorLexW4
import Derived.Test.YtofbhdpcpoclaaaDoorLexSigns
namespace Go.Proofs.YtofbhdpcpoclaaaDoor
open Go.RowKit

theorem head_cons {s : ByteArray} (h : 0 < s.size) : ∃ r, s.data.toList = (s[0]'h) :: r := by
  have hb := byte_is h
  cases hq : s.data.toList with
  | nil => rw [hq] at hb; cases hb
  | cons c r =>
    rw [hq] at hb
    injection hb with hb
    rw [← hb]
    exact ⟨r, rfl⟩

def signAt (k : Nat) : ByteArray := ⟨(signL.getD k []).toArray⟩

theorem sign_find (T : List UInt8) : ∀ (l : List (List UInt8)) (k : Nat), k < l.length → (∀ j, j < k → Lib.hasPrefix T (l.getD j []) = false) → Lib.hasPrefix T (l.getD k []) = true → l.find? (fun x => x.isPrefixOf T) = some (l.getD k [])
  | [], k, hk, _, _ => absurd hk (by simp)
  | x :: l, 0, _, _, h => by
    have h : x.isPrefixOf T = true := h
    simp [h]
  | x :: l, k + 1, hk, hj, h => by
    have h0 : x.isPrefixOf T = false := hj 0 (by omega)
    have := sign_find T l k (by simpa using hk) (fun j hjk => by simpa using hj (j + 1) (by omega)) (by simpa using h)
    simp only [List.find?_cons, h0]
    simpa using this

theorem sign_none (T : List UInt8) (l : List (List UInt8)) (hj : ∀ j, j < l.length → Lib.hasPrefix T (l.getD j []) = false) : l.find? (fun x => x.isPrefixOf T) = none := by
  rw [List.find?_eq_none]
  intro x hx
  obtain ⟨j, hjl, e⟩ := List.mem_iff_getElem.1 hx
  have := hj j hjl
  rw [List.getD_eq_getElem?_getD, List.getElem?_eq_getElem hjl, Option.getD_some, e] at this
  intro h
  rw [Lib.hasPrefix] at this
  rw [this] at h
  cases h

theorem sign_index : ∀ k : Nat, k < 22 → ∀ w : World, (Instr.index 59 (.agg signV) (.int .i64 k)).run Tryd.prog w = .ok (.string (signAt k)) w
  | 0, _ => fun _ => by kernel_rfl
  | 1, _ => fun _ => by kernel_rfl
  | 2, _ => fun _ => by kernel_rfl
  | 3, _ => fun _ => by kernel_rfl
  | 4, _ => fun _ => by kernel_rfl
  | 5, _ => fun _ => by kernel_rfl
  | 6, _ => fun _ => by kernel_rfl
  | 7, _ => fun _ => by kernel_rfl
  | 8, _ => fun _ => by kernel_rfl
  | 9, _ => fun _ => by kernel_rfl
  | 10, _ => fun _ => by kernel_rfl
  | 11, _ => fun _ => by kernel_rfl
  | 12, _ => fun _ => by kernel_rfl
  | 13, _ => fun _ => by kernel_rfl
  | 14, _ => fun _ => by kernel_rfl
  | 15, _ => fun _ => by kernel_rfl
  | 16, _ => fun _ => by kernel_rfl
  | 17, _ => fun _ => by kernel_rfl
  | 18, _ => fun _ => by kernel_rfl
  | 19, _ => fun _ => by kernel_rfl
  | 20, _ => fun _ => by kernel_rfl
  | 21, _ => fun _ => by kernel_rfl
  | n + 22, h => absurd h (by omega)

theorem signAt_list (k : Nat) : (signAt k).data.toList = signL.getD k [] := rfl
theorem sign_len : signL.length = 22 := rfl

set_option maxHeartbeats 1000000 in
set_option maxRecDepth 100000 in
theorem token_any (s : ByteArray) (w : World) (hs : s.size ≤ 1099511627776) :
    Calls Tryd.prog 12 #[.string s] w fun e w' => e = .returned (tokV s (tokF s.data.toList)) ∧ Below w.heap.size w w' := by
  by_cases h0 : 0 < s.size
  · obtain ⟨r, hr⟩ := head_cons h0
    have hI : (0 : Int) < ↑s.size := by omega
    have he : s.toList.isEmpty = false := by rw [isEmpty_size]; exact decide_eq_false (by omega)
    generalize hc : (s[0]'h0) = c at hr
    by_cases hl : letterB c = true
    · have hl' : letterB (s[0]'h0) = true := by rw [hc]; exact hl
      have hq : tokF s.data.toList = wordF s.data.toList := by rw [hr, tokF, if_pos hl]
      have HQ := Lib.hid hq
      have HW := Lib.hid (word_any s)
      clear hq hr hc hl
      go_enter Tryd.func12, Tryd.ntmps12
      go_wp2_with (first | (go_at_call 20; refine (letter_any _ _).mono ?_; rintro e w1 ⟨rfl, rfl⟩) | (go_at_call 21; refine (HW.out _ hs).mono ?_; rintro e w1 ⟨he, hb⟩; rw [tokV] at he; subst he))
      go_ret3
      refine ⟨ret_tok (t := tokF s.data.toList) ?_ ?_ ?_, hb⟩ <;> rw [HQ.out]
    · have hl' : letterB (s[0]'h0) = false := by rw [hc]; simpa using hl
      by_cases hd : digitB c = true
      · have hd' : digitB (s[0]'h0) = true := by rw [hc]; exact hd
        have hq : tokF s.data.toList = numF s.data.toList := by rw [hr, tokF, if_neg hl, if_pos hd]
        have HQ := Lib.hid hq
        have HW := Lib.hid (number_any s)
        clear hq hr hc hl hd
        go_enter Tryd.func12, Tryd.ntmps12
        go_wp2_with (first | (go_at_call 20; refine (letter_any _ _).mono ?_; rintro e w1 ⟨rfl, rfl⟩) | (go_at_call 22; refine (digit_any _ _).mono ?_; rintro e w1 ⟨rfl, rfl⟩) | (go_at_call 23; refine (HW.out _ hs).mono ?_; rintro e w1 ⟨he, rfl⟩; rw [tokV] at he; subst he))
        go_ret3
        refine ⟨ret_tok (t := tokF s.data.toList) ?_ ?_ ?_, Below.refl _ _⟩ <;> rw [HQ.out]
      · have hd' : digitB (s[0]'h0) = false := by rw [hc]; simpa using hd
        have hq : tokF s.data.toList = symF s.data.toList := by rw [hr, tokF, if_neg hl, if_neg hd]
        have HQ := Lib.hid hq
        clear hq hr hc hl hd
        go_enter Tryd.func12, Tryd.ntmps12
        go_wp2_with (first | (go_at_call 20; refine (letter_any _ _).mono ?_; rintro e w1 ⟨rfl, rfl⟩) | (go_at_call 22; refine (digit_any _ _).mono ?_; rintro e w1 ⟨rfl, rfl⟩) | (go_at_call 24; refine (signs_any _).mono ?_; rintro e w1 ⟨rfl, hb⟩))
        go_loop [6, 29] (fun x n => ∃ k : Nat, n = .int .i64 k ∧ k ≤ 22 ∧ ∀ j, j < k → Lib.hasPrefix s.data.toList (signL.getD j []) = false) (fun _ n => 22 - (intOf n).toNat)
        case atStart => exact ⟨0, rfl, by omega, fun j hj => absurd hj (by omega)⟩
        case round =>
          obtain ⟨k, rfl, hk, hj⟩ := hrel
          have HJ := Lib.hid hj
          have HP := Lib.hid (Tryd.strings_HasPrefix s)
          clear hj
          by_cases hlt : k < 22
          · have hi : (k : Int) < 22 := by omega
            have hx := sign_index k hlt
            cases hb2 : Lib.hasPrefix s.data.toList (signAt k).data.toList with
            | true =>
              have hf := sign_find s.data.toList signL k (by rw [sign_len]; exact hlt) HJ.out hb2
              have hq : tokF s.data.toList = (4, (signL.getD k []).length, 0) := by rw [HQ.out, symF, signF, hf]
              have HB := Lib.hid hb2
              have HQ2 := Lib.hid hq
              have hX : signAt k = s.extract 0 (signL.getD k []).length := by
                refine bytes_ext ?_
                rw [extract_list, List.drop_zero, signAt_list]
                exact (List.prefix_iff_eq_take.1 (List.isPrefixOf_iff_prefix.1 hb2))
              have HX := Lib.hid hX
              clear hb2 hf hq hX
              go_wp2_with (go_at_call 18; refine (HP.out (signAt k) _).mono ?_; rw [HB.out]; rintro e w2 ⟨rfl, rfl⟩)
              go_ret3
              refine ⟨ret_tok (t := tokF s.data.toList) ?_ ?_ ?_, hb⟩ <;> rw [HQ2.out]
              · rfl
              · exact HX.out
              · rfl
            | false =>
              have HB := Lib.hid hb2
              clear hb2
              go_wp2_with (go_at_call 18; refine (HP.out (signAt k) _).mono ?_; rw [HB.out]; rintro e w2 ⟨rfl, rfl⟩)
              go_round
              case rel =>
                refine ⟨k + 1, by go_num, by omega, fun j hj => ?_⟩
                rcases Nat.lt_or_ge j k with h | h
                · exact HJ.out j h
                · have : j = k := by omega
                  subst this
                  exact HB.out
              case measure => simp [intOf]; omega
          · have hk2 : k = 22 := by omega
            subst hk2
            have hq : tokF s.data.toList = (0, 0, 20) := by rw [HQ.out, symF, signF, sign_none _ _ (fun j hj => HJ.out j hj)]
            have HQ2 := Lib.hid hq
            clear hq hlt hk
            go_wp2
            go_ret3
            refine ⟨ret_tok (t := tokF s.data.toList) ?_ ?_ ?_, hb⟩ <;> rw [HQ2.out]
            · rfl
            · exact ext_none s
            · rfl
  · have hz : s.size = 0 := by omega
    have he : s.toList.isEmpty = true := by rw [isEmpty_size]; exact decide_eq_true hz
    have hn : s.data.toList = [] := List.eq_nil_of_length_eq_zero (by rw [← Lib.size_eq]; exact hz)
    have hq : tokF s.data.toList = (5, 0, 0) := by rw [hn, tokF]
    have HQ := Lib.hid hq
    clear hq hn hz h0
    go_enter Tryd.func12, Tryd.ntmps12
    go_wp2
    go_ret3
    refine ⟨ret_tok (t := tokF s.data.toList) ?_ ?_ ?_, Below.refl _ _⟩ <;> rw [HQ.out]
    · rfl
    · exact ext_none s
    · rfl
end Go.Proofs.YtofbhdpcpoclaaaDoor
