/- The walks of the reference's small functions of lexing. -/
import Derived.Test.YtofbhdpcpoclaaaDoorLexW6
namespace Go.Proofs.YtofbhdpcpoclaaaDoor
open Go.RowKit

theorem blankB_cases (c : UInt8) : blankB c = ((c.toNat : Int) == 32 || (c.toNat : Int) == 9 || (c.toNat : Int) == 13 || (c.toNat : Int) == 10) := by
  simp only [blankB, u8_eq]
  rfl

set_option maxHeartbeats 1000000 in
set_option maxRecDepth 100000 in
theorem refBlank_any (c : UInt8) (w : World) : Calls Tryd.prog 25 #[.int .u8 c.toNat] w fun e w' => e = .returned (.bool (blankB c)) ∧ w' = w := by
  rw [blankB_cases]
  generalize h1 : ((c.toNat : Int) == 32) = b1
  generalize h2 : ((c.toNat : Int) == 9) = b2
  generalize h3 : ((c.toNat : Int) == 13) = b3
  generalize h4 : ((c.toNat : Int) == 10) = b4
  cases b1 <;> cases b2 <;> cases b3 <;> cases b4 <;>
  (go_enter Tryd.func25, Tryd.ntmps25
   go_wp2
   go_ret
   exact ⟨rfl, rfl⟩)

set_option maxHeartbeats 1000000 in
set_option maxRecDepth 100000 in
theorem refLetter_any (c : UInt8) (w : World) : Calls Tryd.prog 26 #[.int .u8 c.toNat] w fun e w' => e = .returned (.bool (letterB c)) ∧ w' = w := by
  rw [letterB_cases]
  go_enter Tryd.func26, Tryd.ntmps26
  go_wp2
  all_goals (go_ret; refine ⟨ret_bool ?_, rfl⟩; simp; try omega)

set_option maxHeartbeats 1000000 in
set_option maxRecDepth 100000 in
theorem refDigit_any (c : UInt8) (w : World) : Calls Tryd.prog 27 #[.int .u8 c.toNat] w fun e w' => e = .returned (.bool (digitB c)) ∧ w' = w := by
  rw [digitB_cases]
  go_enter Tryd.func27, Tryd.ntmps27
  go_wp2
  all_goals (go_ret; refine ⟨ret_bool ?_, rfl⟩; simp; try omega)

theorem drop_byte {s : ByteArray} {k : Nat} (h : k < s.size) : s.data.toList.drop k = (s[k]'h) :: s.data.toList.drop (k + 1) := by
  have h' : k < s.data.toList.length := by rw [← Lib.size_eq]; exact h
  rw [List.drop_eq_getElem_cons h']
  rfl

set_option maxHeartbeats 2000000 in
set_option maxRecDepth 100000 in
theorem refLead_any (s : ByteArray) (p : Nat) (w : World) (hs : s.size ≤ 1099511627776) (hp : p ≤ s.size) :
    Calls Tryd.prog 13 #[.string s, .int .i64 p] w fun e w' => e = .returned (.int .i64 (p + leadF false (s.data.toList.drop p) : Nat)) ∧ w' = w := by
  generalize hR : p + leadF false (s.data.toList.drop p) = R
  have HR := Lib.hid hR
  clear hR
  go_enter Tryd.func13, Tryd.ntmps13
  go_wp2
  go_loop [1] (fun a => ∃ k : Nat, k ≤ s.size ∧ a = .int .i64 k ∧ k + leadF false (s.data.toList.drop k) = R) (fun a => s.size - (intOf a).toNat)
  case atStart => exact ⟨p, hp, rfl, HR.out⟩
  case round =>
    clear HR
    obtain ⟨k, hk, rfl, hR⟩ := hrel
    by_cases hlt : k < s.size
    · rw [drop_byte hlt] at hR
      have hI : (k : Int) < ↑s.size := by omega
      by_cases hb : blankB (s[k]'hlt) = true
      · rw [leadF, if_pos hb] at hR
        have HR := Lib.hid hR
        clear hR
        go_wp2_with (go_at_call 25; refine (refBlank_any _ _).mono ?_; rintro e w1 ⟨rfl, rfl⟩)
        go_round
        case rel => exact ⟨k + 1, by omega, by go_num, by have := HR.out; omega⟩
        case measure => simp [intOf]; omega
      · rw [leadF, if_neg hb] at hR
        have hb' : blankB (s[k]'hlt) = false := by simpa using hb
        clear hb
        by_cases hlt2 : k + 1 < s.size
        · rw [drop_byte hlt2] at hR
          have hI2 : (k : Int) + 1 < ↑s.size := by omega
          by_cases hm : (s[k]'hlt) = 45 ∧ (s[k + 1]'hlt2) = 45
          · rw [if_pos ⟨hm.1, by rw [List.head?_cons, hm.2]⟩, ← drop_byte hlt2] at hR
            have t1 : (((s[k]'hlt).toNat : Int) == 45) = true := by rw [hm.1]; rfl
            have t2 : (((s[k + 1]'hlt2).toNat : Int) == 45) = true := by rw [hm.2]; rfl
            have HR := Lib.hid hR
            have HM := Lib.hid hm
            clear hR hm
            go_wp2_with (go_at_call 25; refine (refBlank_any _ _).mono ?_; rintro e w1 ⟨rfl, rfl⟩)
            go_loop [1] (fun a => ∃ j : Nat, k ≤ j ∧ j ≤ s.size ∧ a = .int .i64 j ∧ j + leadF true (s.data.toList.drop j) = R) (fun a => s.size - (intOf a).toNat)
            case atStart =>
              refine ⟨k, Nat.le_refl _, hk, rfl, ?_⟩
              have h1 := HR.out
              have h2 := HM.out
              rw [drop_byte hlt, leadF, if_neg (by rw [h2.1]; decide)]
              omega
            case round =>
              obtain ⟨j, hkj, hj, rfl, hq⟩ := hrel
              clear t1 t2
              by_cases hjt : j < s.size
              · have hJ : (j : Int) < ↑s.size := by omega
                rw [drop_byte hjt, leadF] at hq
                by_cases hten : (s[j]'hjt) = 10
                · rw [if_pos hten] at hq
                  have hjk : k + 1 ≤ j := by
                    rcases Nat.lt_or_ge k j with h | h
                    · exact h
                    · obtain rfl : j = k := by omega
                      have := HM.out.1
                      rw [hten] at this
                      exact absurd this (by decide)
                  have hq2 : j + leadF false (s.data.toList.drop j) = R := by
                    rw [drop_byte hjt, leadF, if_pos (by rw [hten]; decide)]
                    exact hq
                  have t3 : (((s[j]'hjt).toNat : Int) != 10) = false := by rw [hten]; rfl
                  have HQ := Lib.hid hq2
                  have HM2 := Lib.hid hten
                  clear hq hq2 hten
                  go_wp2
                  go_round
                  case rel => exact ⟨j, hj, rfl, HQ.out⟩
                  case measure => simp [intOf]; omega
                · rw [if_neg hten] at hq
                  have t3 : (((s[j]'hjt).toNat : Int) != 10) = true := by
                    rw [bne_iff_ne]
                    intro q
                    exact hten (UInt8.toNat_inj.1 (by have e1 : (10 : UInt8).toNat = 10 := rfl; omega))
                  have HQ := Lib.hid hq
                  have HM2 := Lib.hid hten
                  clear hq hten
                  go_wp2
                  go_round
                  case rel => exact ⟨j + 1, by omega, by omega, by go_num, by have := HQ.out; omega⟩
                  case measure => simp [intOf]; omega
              · obtain rfl : j = s.size := by omega
                have hjk : k + 1 ≤ s.size := hlt
                have hq2 : s.size + leadF false (s.data.toList.drop s.size) = R := by
                  have e : s.data.toList.drop s.size = [] := by rw [List.drop_eq_nil_iff, ← Lib.size_eq]; exact Nat.le_refl _
                  rw [e] at hq ⊢
                  exact hq
                have HQ := Lib.hid hq2
                clear hq hq2
                go_wp2
                go_round
                case rel => exact ⟨s.size, Nat.le_refl _, rfl, HQ.out⟩
                case measure => simp [intOf]; omega
          · have hR : k = R := by
              rw [if_neg (fun q => hm ⟨q.1, by have := q.2; rw [List.head?_cons] at this; injection this⟩)] at hR
              exact hR
            have HR := Lib.hid hR
            clear hR
            by_cases ha : (s[k]'hlt) = 45
            · have t1 : (((s[k]'hlt).toNat : Int) == 45) = true := by rw [ha]; rfl
              have t2 : (((s[k + 1]'hlt2).toNat : Int) == 45) = false := by
                rw [← Bool.not_eq_true, beq_iff_eq]
                intro q
                exact hm ⟨ha, UInt8.toNat_inj.1 (by have e1 : (45 : UInt8).toNat = 45 := rfl; omega)⟩
              clear ha hm
              go_wp2_with (go_at_call 25; refine (refBlank_any _ _).mono ?_; rintro e w1 ⟨rfl, rfl⟩)
              go_ret
              exact ⟨ret_int (by rw [← HR.out]), rfl⟩
            · have t1 : (((s[k]'hlt).toNat : Int) == 45) = false := by
                rw [← Bool.not_eq_true, beq_iff_eq]
                intro q
                exact ha (UInt8.toNat_inj.1 (by have e1 : (45 : UInt8).toNat = 45 := rfl; omega))
              clear ha hm
              go_wp2_with (go_at_call 25; refine (refBlank_any _ _).mono ?_; rintro e w1 ⟨rfl, rfl⟩)
              go_ret
              exact ⟨ret_int (by rw [← HR.out]), rfl⟩
        · have hR : k = R := by
            have e : s.data.toList.drop (k + 1) = [] := by rw [List.drop_eq_nil_iff, ← Lib.size_eq]; omega
            rw [e, if_neg (by rintro ⟨_, q⟩; cases q)] at hR
            exact hR
          have HR := Lib.hid hR
          clear hR
          have hI2 : decide ((k : Int) + 1 < ↑s.size) = false := decide_eq_false (by omega)
          go_wp2_with (go_at_call 25; refine (refBlank_any _ _).mono ?_; rintro e w1 ⟨rfl, rfl⟩)
          go_ret
          exact ⟨ret_int (by rw [← HR.out]), rfl⟩
    · have hR : k = R := by
        have e : s.data.toList.drop k = [] := by rw [List.drop_eq_nil_iff, ← Lib.size_eq]; omega
        rw [e] at hR
        exact hR
      have HR := Lib.hid hR
      clear hR
      have hI : decide ((k : Int) < ↑s.size) = false := decide_eq_false (by omega)
      go_wp2
      go_ret
      exact ⟨ret_int (by rw [← HR.out]), rfl⟩
end Go.Proofs.YtofbhdpcpoclaaaDoor
