/- The walks of lex's small functions. -/
import Derived.Test.YtofbhdpcpoclaaaDoorLexPlain
import Derived.Test.YtofbhdpcpoclaaaDoorShelf
import Derived.Shelf.Strings.SlTrimAscii
import Derived.Lib.SlTrimSet
namespace Go.Proofs.YtofbhdpcpoclaaaDoor
open Go.RowKit

theorem letterB_cases (c : UInt8) : letterB c = ((decide (97 ≤ (c.toNat : Int)) && decide ((c.toNat : Int) ≤ 122)) || (decide (65 ≤ (c.toNat : Int)) && decide ((c.toNat : Int) ≤ 90))) := by
  have h1 : (97 ≤ c) ↔ (97 ≤ (c.toNat : Int)) := by rw [UInt8.le_iff_toNat_le]; show 97 ≤ c.toNat ↔ _; omega
  have h2 : (c ≤ 122) ↔ ((c.toNat : Int) ≤ 122) := by rw [UInt8.le_iff_toNat_le]; show c.toNat ≤ 122 ↔ _; omega
  have h3 : (65 ≤ c) ↔ (65 ≤ (c.toNat : Int)) := by rw [UInt8.le_iff_toNat_le]; show 65 ≤ c.toNat ↔ _; omega
  have h4 : (c ≤ 90) ↔ ((c.toNat : Int) ≤ 90) := by rw [UInt8.le_iff_toNat_le]; show c.toNat ≤ 90 ↔ _; omega
  simp only [letterB, h1, h2, h3, h4]

theorem digitB_cases (c : UInt8) : digitB c = (decide (48 ≤ (c.toNat : Int)) && decide ((c.toNat : Int) ≤ 57)) := by
  have h1 : (48 ≤ c) ↔ (48 ≤ (c.toNat : Int)) := by rw [UInt8.le_iff_toNat_le]; show 48 ≤ c.toNat ↔ _; omega
  have h2 : (c ≤ 57) ↔ ((c.toNat : Int) ≤ 57) := by rw [UInt8.le_iff_toNat_le]; show c.toNat ≤ 57 ↔ _; omega
  simp only [digitB, h1, h2]

theorem u8_eq (c : UInt8) (k : UInt8) : (c == k) = ((c.toNat : Int) == (k.toNat : Int)) := by
  rw [Bool.eq_iff_iff, beq_iff_eq, beq_iff_eq, ← UInt8.toNat_inj]
  omega

theorem int_eq_nat (a b : Nat) : (((a : Int) == (b : Int)) = true) = (a = b) := by
  rw [beq_iff_eq]; exact propext Int.ofNat_inj

set_option maxHeartbeats 1000000 in
set_option maxRecDepth 100000 in
theorem letter_any (c : UInt8) (w : World) : Calls Tryd.prog 20 #[.int .u8 c.toNat] w fun e w' => e = .returned (.bool (letterB c)) ∧ w' = w := by
  rw [letterB_cases]
  go_enter Tryd.func20, Tryd.ntmps20
  go_wp2
  all_goals (go_ret; refine ⟨ret_bool ?_, rfl⟩; simp; try omega)

set_option maxHeartbeats 1000000 in
set_option maxRecDepth 100000 in
theorem digit_any (c : UInt8) (w : World) : Calls Tryd.prog 22 #[.int .u8 c.toNat] w fun e w' => e = .returned (.bool (digitB c)) ∧ w' = w := by
  rw [digitB_cases]
  go_enter Tryd.func22, Tryd.ntmps22
  go_wp2
  all_goals (go_ret; refine ⟨ret_bool ?_, rfl⟩; simp; try omega)

set_option maxHeartbeats 1000000 in
set_option maxRecDepth 100000 in
theorem inside_any (c : UInt8) (w : World) : Calls Tryd.prog 38 #[.int .u8 c.toNat] w fun e w' => e = .returned (.bool (insideB c)) ∧ w' = w := by
  have hq : insideB c = (letterB c || digitB c || ((c.toNat : Int) == 95)) := by rw [insideB, u8_eq]; rfl
  rw [hq]
  clear hq
  generalize hL : letterB c = L
  generalize hD : digitB c = D
  cases L <;> cases D <;>
  (go_enter Tryd.func38, Tryd.ntmps38
   go_wp2_with (first | (go_at_call 20; refine (letter_any c _).mono ?_; rintro e w' ⟨rfl, rfl⟩; rw [hL]) | (go_at_call 22; refine (digit_any c _).mono ?_; rintro e w' ⟨rfl, rfl⟩; rw [hD]))
   all_goals (go_ret; refine ⟨ret_bool ?_, rfl⟩; simp))

/-- The longest beginning of some bytes. -/
def runL (p : UInt8 → Bool) (s : ByteArray) : Nat := (s.data.toList.takeWhile p).length

theorem take_more (p : UInt8 → Bool) : ∀ (T : List UInt8) (k : Nat), k ≤ (T.takeWhile p).length → (k < (T.takeWhile p).length ↔ ∃ c, T[k]? = some c ∧ p c = true)
  | [], k, hk => by simp
  | c :: r, 0, hk => by
    by_cases h : p c = true
    · simp [List.takeWhile_cons_of_pos h, h]
    · simp [List.takeWhile_cons_of_neg h, h]
  | c :: r, k + 1, hk => by
    by_cases h : p c = true
    · rw [List.takeWhile_cons_of_pos h, List.length_cons] at hk ⊢
      have := take_more p r k (by omega)
      simp only [List.getElem?_cons_succ]
      rw [← this]
      omega
    · rw [List.takeWhile_cons_of_neg h] at hk
      simp at hk

theorem byte_is {s : ByteArray} {i : Nat} (hi : i < s.size) : s.data.toList[i]? = some (s[i]'hi) := by
  rw [List.getElem?_eq_getElem (by rw [Lib.size_eq] at hi; exact hi)]
  rfl

set_option maxHeartbeats 1000000 in
set_option maxRecDepth 100000 in
theorem run_inside (s : ByteArray) (w : World) (hs : s.size ≤ 1099511627776) :
    Calls Tryd.prog 37 #[.string s, .func (.func 38) #[] #[]] w fun e w' => e = .returned (.string (s.extract 0 (runL insideB s))) ∧ w' = w := by
  have hr : runL insideB s ≤ s.size := by rw [Lib.size_eq]; exact takeWhile_le insideB _
  go_enter Tryd.func37, Tryd.ntmps37
  go_wp2
  go_loop [5] (fun n => ∃ k : Nat, n = .int .i64 k ∧ k ≤ runL insideB s) (fun n => s.size - (intOf n).toNat)
  case atStart => exact ⟨0, rfl, Nat.zero_le _⟩
  case round =>
    obtain ⟨k, rfl, hk⟩ := hrel
    have hm := take_more insideB s.data.toList k hk
    by_cases hlt : k < s.size
    · have hI : (k : Int) < ↑s.size := by omega
      have hD : decide ((k : Int) < ↑s.size) = true := decide_eq_true hI
      rw [byte_is hlt] at hm
      by_cases hp : insideB (s[k]'hlt) = true
      · have hk1 : k < runL insideB s := hm.2 ⟨_, rfl, hp⟩
        have HM := Lib.hid hm
        clear hm
        go_wp2_with (go_at_call 38; refine (inside_any _ _).mono ?_; rintro e w1 ⟨rfl, rfl⟩)
        go_round
        case rel => exact ⟨k + 1, by go_num, by omega⟩
        case measure => simp [intOf]; omega
      · have hk1 : k = runL insideB s := by
          rcases Nat.lt_or_ge k (runL insideB s) with h | h
          · obtain ⟨c, h1, h2⟩ := hm.1 h
            injection h1 with h1
            subst h1
            exact absurd h2 hp
          · omega
        have hp' : insideB (s[k]'hlt) = false := by simpa using hp
        have HK := Lib.hid hk1
        clear hm hp hk1
        go_wp2_with (go_at_call 38; refine (inside_any _ _).mono ?_; rintro e w1 ⟨rfl, rfl⟩)
        go_ret
        exact ⟨by rw [← HK.out]; rfl, rfl⟩
    · have hk1 : k = runL insideB s := by omega
      have hD : decide ((k : Int) < ↑s.size) = false := decide_eq_false (by omega)
      have HK := Lib.hid hk1
      clear hm hk1
      go_wp2
      go_ret
      exact ⟨by rw [← HK.out]; rfl, rfl⟩
set_option maxHeartbeats 1000000 in
set_option maxRecDepth 100000 in
theorem run_digit (s : ByteArray) (w : World) (hs : s.size ≤ 1099511627776) :
    Calls Tryd.prog 37 #[.string s, .func (.func 22) #[] #[]] w fun e w' => e = .returned (.string (s.extract 0 (runL digitB s))) ∧ w' = w := by
  have hr : runL digitB s ≤ s.size := by rw [Lib.size_eq]; exact takeWhile_le digitB _
  go_enter Tryd.func37, Tryd.ntmps37
  go_wp2
  go_loop [5] (fun n => ∃ k : Nat, n = .int .i64 k ∧ k ≤ runL digitB s) (fun n => s.size - (intOf n).toNat)
  case atStart => exact ⟨0, rfl, Nat.zero_le _⟩
  case round =>
    obtain ⟨k, rfl, hk⟩ := hrel
    have hm := take_more digitB s.data.toList k hk
    by_cases hlt : k < s.size
    · have hI : (k : Int) < ↑s.size := by omega
      have hD : decide ((k : Int) < ↑s.size) = true := decide_eq_true hI
      rw [byte_is hlt] at hm
      by_cases hp : digitB (s[k]'hlt) = true
      · have hk1 : k < runL digitB s := hm.2 ⟨_, rfl, hp⟩
        have HM := Lib.hid hm
        clear hm
        go_wp2_with (go_at_call 22; refine (digit_any _ _).mono ?_; rintro e w1 ⟨rfl, rfl⟩)
        go_round
        case rel => exact ⟨k + 1, by go_num, by omega⟩
        case measure => simp [intOf]; omega
      · have hk1 : k = runL digitB s := by
          rcases Nat.lt_or_ge k (runL digitB s) with h | h
          · obtain ⟨c, h1, h2⟩ := hm.1 h
            injection h1 with h1
            subst h1
            exact absurd h2 hp
          · omega
        have hp' : digitB (s[k]'hlt) = false := by simpa using hp
        have HK := Lib.hid hk1
        clear hm hp hk1
        go_wp2_with (go_at_call 22; refine (digit_any _ _).mono ?_; rintro e w1 ⟨rfl, rfl⟩)
        go_ret
        exact ⟨by rw [← HK.out]; rfl, rfl⟩
    · have hk1 : k = runL digitB s := by omega
      have hD : decide ((k : Int) < ↑s.size) = false := decide_eq_false (by omega)
      have HK := Lib.hid hk1
      clear hm hk1
      go_wp2
      go_ret
      exact ⟨by rw [← HK.out]; rfl, rfl⟩
end Go.Proofs.YtofbhdpcpoclaaaDoor
