/- The walks of the code that the claim reaches, and the plain laws: LexW1, LexW2, LexW3, LexW4, LexSigns, LexW5, LexInfo. No condition of ours. -/
import Derived.Test.YtemkhbmkaalgdaaGreatDoorM01
import Derived.Test.YtemkhbmkaalgdaaGreatDoorM09
import Derived.Shelf.Strings.SlTrimAscii
import Derived.Lib.SlTrimSet
import Derived.Shelf.Spec.SearchS
import Derived.Great.BuildSlice
import Derived.Deep.WholeRow
import Derived.Test.YtemkhbmkaalgdaaGreatDoorProg
import Derived.KernelRfl
namespace Go.Proofs.YtemkhbmkaalgdaaGreatDoor
open Go.RowKit
theorem letterB_cases (c : UInt8) : letterB c = ((decide (97 ≤ (c.toNat : Int)) && decide ((c.toNat : Int) ≤ 122)) || (decide (65 ≤ (c.toNat : Int)) && decide ((c.toNat : Int) ≤ 90))) := by
  have h1 : (97 ≤ c) ↔ (97 ≤ (c.toNat : Int)) := by rw [UInt8.le_iff_toNat_le]; show 97 ≤ c.toNat ↔ _; omega
  have h2 : (c ≤ 122) ↔ ((c.toNat : Int) ≤ 122) := by rw [UInt8.le_iff_toNat_le]; show c.toNat ≤ 122 ↔ _; omega
  have h3 : (65 ≤ c) ↔ (65 ≤ (c.toNat : Int)) := by rw [UInt8.le_iff_toNat_le]; show 65 ≤ c.toNat ↔ _; omega
  have h4 : (c ≤ 90) ↔ ((c.toNat : Int) ≤ 90) := by rw [UInt8.le_iff_toNat_le]; show c.toNat ≤ 90 ↔ _; omega
  simp only [letterB, h1, h2, h3, h4]
theorem digitB_cases (c : UInt8) : digitB c = (decide (48 ≤ (c.toNat : Int)) && decide ((c.toNat : Int) ≤ 57)) := by
  have h1 : (48 ≤ c) ↔ (48 ≤ (c.toNat : Int)) := by rw [UInt8.le_iff_toNat_le]; show 48 ≤ c.toNat ↔ _; omega
  have h2 : (c ≤ 57) ↔ ((c.toNat : Int) ≤ 57) := by rw [UInt8.le_iff_toNat_le]; show c.toNat ≤ 57 ↔ _; omega
  simp only [digitB, h1, h2]
theorem u8_eq (c : UInt8) (k : UInt8) : (c == k) = ((c.toNat : Int) == (k.toNat : Int)) := by
  rw [Bool.eq_iff_iff, beq_iff_eq, beq_iff_eq, ← UInt8.toNat_inj]
  omega
set_option maxHeartbeats 1000000 in
set_option maxRecDepth 100000 in
theorem letter_any (c : UInt8) (w : World) : Calls Tryz.prog 115 #[.int .u8 c.toNat] w fun e w' => e = .returned (.bool (letterB c)) ∧ w' = w := by
  rw [letterB_cases]
  go_enter Tryz.func115, Tryz.ntmps115
  go_wp2
  all_goals (go_ret; refine ⟨ret_bool ?_, rfl⟩; simp; try omega)
set_option maxHeartbeats 1000000 in
set_option maxRecDepth 100000 in
theorem digit_any (c : UInt8) (w : World) : Calls Tryz.prog 117 #[.int .u8 c.toNat] w fun e w' => e = .returned (.bool (digitB c)) ∧ w' = w := by
  rw [digitB_cases]
  go_enter Tryz.func117, Tryz.ntmps117
  go_wp2
  all_goals (go_ret; refine ⟨ret_bool ?_, rfl⟩; simp; try omega)
set_option maxHeartbeats 1000000 in
set_option maxRecDepth 100000 in
theorem inside_any (c : UInt8) (w : World) : Calls Tryz.prog 136 #[.int .u8 c.toNat] w fun e w' => e = .returned (.bool (insideB c)) ∧ w' = w := by
  have hq : insideB c = (letterB c || digitB c || ((c.toNat : Int) == 95)) := by rw [insideB, u8_eq]; rfl
  rw [hq]
  clear hq
  generalize hL : letterB c = L
  generalize hD : digitB c = D
  cases L <;> cases D <;>
  (go_enter Tryz.func136, Tryz.ntmps136
   go_wp2_with (first | (go_at_call 115; refine (letter_any c _).mono ?_; rintro e w' ⟨rfl, rfl⟩; rw [hL]) | (go_at_call 117; refine (digit_any c _).mono ?_; rintro e w' ⟨rfl, rfl⟩; rw [hD]))
   all_goals (go_ret; refine ⟨ret_bool ?_, rfl⟩; simp))
def runL (p : UInt8 → Bool) (s : ByteArray) : Nat := (s.data.toList.takeWhile p).length
theorem take_more (p : UInt8 → Bool) : ∀ (T : List UInt8) (k : Nat), k ≤ (T.takeWhile p).length → (k < (T.takeWhile p).length ↔ ∃ c, T[k]? = some c ∧ p c = true)
  | [], k, hk => by simp
  | c :: r, 0, hk => by
    by_cases h : p c = true
    · simp [List.takeWhile_cons_of_pos h, h]
    · simp [List.takeWhile_cons_of_neg h, h]
  | c :: r, k + 1, hk => by
    by_cases h : p c = true
    · rw [List.takeWhile_cons_of_pos h, List.length_cons] at hk ⊢
      have := take_more p r k (by omega)
      simp only [List.getElem?_cons_succ]
      rw [← this]
      omega
    · rw [List.takeWhile_cons_of_neg h] at hk
      simp at hk
theorem byte_is {s : ByteArray} {i : Nat} (hi : i < s.size) : s.data.toList[i]? = some (s[i]'hi) := by
  rw [List.getElem?_eq_getElem (by rw [Lib.size_eq] at hi; exact hi)]
  rfl
set_option maxHeartbeats 1000000 in
set_option maxRecDepth 100000 in
theorem run_inside (s : ByteArray) (w : World) (hs : s.size ≤ 1099511627776) :
    Calls Tryz.prog 135 #[.string s, .func (.func 136) #[] #[]] w fun e w' => e = .returned (.string (s.extract 0 (runL insideB s))) ∧ w' = w := by
  have hr : runL insideB s ≤ s.size := by rw [Lib.size_eq]; exact takeWhile_le insideB _
  go_enter Tryz.func135, Tryz.ntmps135
  go_wp2
  go_loop [5] (fun n => ∃ k : Nat, n = .int .i64 k ∧ k ≤ runL insideB s) (fun n => s.size - (intOf n).toNat)
  case atStart => exact ⟨0, rfl, Nat.zero_le _⟩
  case round =>
    obtain ⟨k, rfl, hk⟩ := hrel
    have hm := take_more insideB s.data.toList k hk
    by_cases hlt : k < s.size
    · have hI : (k : Int) < ↑s.size := by omega
      have hD : decide ((k : Int) < ↑s.size) = true := decide_eq_true hI
      rw [byte_is hlt] at hm
      by_cases hp : insideB (s[k]'hlt) = true
      · have hk1 : k < runL insideB s := hm.2 ⟨_, rfl, hp⟩
        have HM := Lib.hid hm
        clear hm
        go_wp2_with (go_at_call 136; refine (inside_any _ _).mono ?_; rintro e w1 ⟨rfl, rfl⟩)
        go_round
        case rel => exact ⟨k + 1, by go_num, by omega⟩
        case measure => simp [intOf]; omega
      · have hk1 : k = runL insideB s := by
          rcases Nat.lt_or_ge k (runL insideB s) with h | h
          · obtain ⟨c, h1, h2⟩ := hm.1 h
            injection h1 with h1
            subst h1
            exact absurd h2 hp
          · omega
        have hp' : insideB (s[k]'hlt) = false := by simpa using hp
        have HK := Lib.hid hk1
        clear hm hp hk1
        go_wp2_with (go_at_call 136; refine (inside_any _ _).mono ?_; rintro e w1 ⟨rfl, rfl⟩)
        go_ret
        exact ⟨by rw [← HK.out]; rfl, rfl⟩
    · have hk1 : k = runL insideB s := by omega
      have hD : decide ((k : Int) < ↑s.size) = false := decide_eq_false (by omega)
      have HK := Lib.hid hk1
      clear hm hk1
      go_wp2
      go_ret
      exact ⟨by rw [← HK.out]; rfl, rfl⟩
set_option maxHeartbeats 1000000 in
set_option maxRecDepth 100000 in
theorem run_digit (s : ByteArray) (w : World) (hs : s.size ≤ 1099511627776) :
    Calls Tryz.prog 135 #[.string s, .func (.func 117) #[] #[]] w fun e w' => e = .returned (.string (s.extract 0 (runL digitB s))) ∧ w' = w := by
  have hr : runL digitB s ≤ s.size := by rw [Lib.size_eq]; exact takeWhile_le digitB _
  go_enter Tryz.func135, Tryz.ntmps135
  go_wp2
  go_loop [5] (fun n => ∃ k : Nat, n = .int .i64 k ∧ k ≤ runL digitB s) (fun n => s.size - (intOf n).toNat)
  case atStart => exact ⟨0, rfl, Nat.zero_le _⟩
  case round =>
    obtain ⟨k, rfl, hk⟩ := hrel
    have hm := take_more digitB s.data.toList k hk
    by_cases hlt : k < s.size
    · have hI : (k : Int) < ↑s.size := by omega
      have hD : decide ((k : Int) < ↑s.size) = true := decide_eq_true hI
      rw [byte_is hlt] at hm
      by_cases hp : digitB (s[k]'hlt) = true
      · have hk1 : k < runL digitB s := hm.2 ⟨_, rfl, hp⟩
        have HM := Lib.hid hm
        clear hm
        go_wp2_with (go_at_call 117; refine (digit_any _ _).mono ?_; rintro e w1 ⟨rfl, rfl⟩)
        go_round
        case rel => exact ⟨k + 1, by go_num, by omega⟩
        case measure => simp [intOf]; omega
      · have hk1 : k = runL digitB s := by
          rcases Nat.lt_or_ge k (runL digitB s) with h | h
          · obtain ⟨c, h1, h2⟩ := hm.1 h
            injection h1 with h1
            subst h1
            exact absurd h2 hp
          · omega
        have hp' : digitB (s[k]'hlt) = false := by simpa using hp
        have HK := Lib.hid hk1
        clear hm hp hk1
        go_wp2_with (go_at_call 117; refine (digit_any _ _).mono ?_; rintro e w1 ⟨rfl, rfl⟩)
        go_ret
        exact ⟨by rw [← HK.out]; rfl, rfl⟩
    · have hk1 : k = runL digitB s := by omega
      have hD : decide ((k : Int) < ↑s.size) = false := decide_eq_false (by omega)
      have HK := Lib.hid hk1
      clear hm hk1
      go_wp2
      go_ret
      exact ⟨by rw [← HK.out]; rfl, rfl⟩
end Go.Proofs.YtemkhbmkaalgdaaGreatDoor

namespace Go.Proofs.YtemkhbmkaalgdaaGreatDoor
open Go.RowKit
theorem blankB_set : ∀ c : UInt8, blankB c = ([32, 9, 13, 10] : List UInt8).contains c := by
  intro c
  simp only [blankB, List.contains_cons, List.contains_nil, Bool.or_false, Bool.or_assoc]
theorem trim_any (s : ByteArray) (w : World) : Calls Tryz.prog 112 #[.string s, .string ⟨#[32, 9, 13, 10]⟩] w fun e w' => e = .returned (.string ⟨(s.data.toList.dropWhile blankB).toArray⟩) ∧ Below w.heap.size w w' := by
  have h := Any.strings_TrimLeft_laid Tryz.lays161 (by kernel_rfl) s ⟨#[32, 9, 13, 10]⟩ w (by decide) (ascii_of_all (by decide))
  have e : Lib.trimLeftS s.data.toList (ByteArray.mk #[32, 9, 13, 10]).data.toList = s.data.toList.dropWhile blankB := by
    unfold Lib.trimLeftS
    congr 1
    funext c
    exact (blankB_set c).symm
  rw [e] at h
  exact h
theorem drop_blanks (T : List UInt8) : T.dropWhile blankB = T.drop (T.takeWhile blankB).length := by
  induction T with
  | nil => rfl
  | cons c r ih =>
    by_cases h : blankB c = true
    · rw [List.dropWhile_cons_of_pos h, List.takeWhile_cons_of_pos h, ih]; rfl
    · rw [List.dropWhile_cons_of_neg h, List.takeWhile_cons_of_neg h]; rfl
theorem take_none (T : List UInt8) : (T.dropWhile blankB).takeWhile blankB = [] := by
  cases h : T.dropWhile blankB with
  | nil => rfl
  | cons c r =>
    have := List.head?_dropWhile_not blankB T
    rw [h] at this
    simp only [List.head?_cons] at this
    rw [List.takeWhile_cons_of_neg (by simpa using this)]
theorem pre_one (T : List UInt8) (i : Nat) (h : [45, 45] <+: T) (hi : T[i]? = some 10) : 0 < i := by
  obtain ⟨r, rfl⟩ := h
  cases i with
  | zero => cases hi
  | succ i => omega
set_option maxHeartbeats 1000000 in
set_option maxRecDepth 100000 in
theorem between_any (s : ByteArray) (w : World) (hs : s.size ≤ 1099511627776) :
    Calls Tryz.prog 78 #[.string s] w fun e w' => e = .returned (.string (s.extract 0 (leadF false s.data.toList))) ∧ Below w.heap.size w w' := by
  have hle := leadF_le false s.data.toList
  rw [← Lib.size_eq] at hle
  go_enter Tryz.func78, Tryz.ntmps78
  go_wp2
  go_loopw [3] (fun r wr => ∃ (d : Nat) (x : ByteArray), r = .string x ∧ d ≤ s.size ∧ x.data.toList = s.data.toList.drop d ∧ leadF false s.data.toList = d + leadF false (s.data.toList.drop d) ∧ Below w.heap.size w wr) (fun r _ => strLen r)
  case atStart => exact ⟨0, s, rfl, Nat.zero_le _, rfl, by simp, Below.refl _ _⟩
  case round =>
    obtain ⟨d, x, rfl, hd, hx, hl, hb⟩ := hrel
    have hz := hb.size
    have hxs : x.size = s.size - d := by rw [Lib.size_eq, hx, List.length_drop, ← Lib.size_eq]
    rw [leadF_blanks (s.data.toList.drop d), ← hx] at hl
    have hkl := takeWhile_le blankB x.data.toList
    have hnone := take_none x.data.toList
    have hdrop := drop_blanks x.data.toList
    rw [← Lib.size_eq] at hkl
    generalize hk : (x.data.toList.takeWhile blankB).length = k at hl hkl hdrop
    generalize hy : (ByteArray.mk (x.data.toList.dropWhile blankB).toArray) = y
    have hyl : y.data.toList = x.data.toList.dropWhile blankB := by rw [← hy]
    have hys : y.size = s.size - (d + k) := by rw [Lib.size_eq, hyl, hdrop, List.length_drop, ← Lib.size_eq, hxs]; omega
    rw [← hyl] at hl hnone hdrop
    have HT := Lib.hid (trim_any x wr)
    have HY := Lib.hid hy
    by_cases hp : [45, 45] <+: y.data.toList
    · have hpre : Lib.hasPrefix y.data.toList (ByteArray.mk #[45, 45]).data.toList = true := List.isPrefixOf_iff_prefix.2 hp
      rw [leadF_remark _ hp] at hl
      rcases ten_cases y.data.toList with ⟨h1, h2⟩ | ⟨i, h1, h2, h3, h4⟩
      · have HP := Lib.hid (Tryz.strings_HasPrefix y ⟨#[45, 45]⟩)
        have HI := Lib.hid (Tryz.strings_Index_one y 10)
        have HJ := Lib.hid h1
        rw [leadF_none _ h2, ← Lib.size_eq, hys] at hl
        have HL := Lib.hid hl
        have HB := Lib.hid hpre
        clear hl hy hyl hx hnone hdrop hp hpre hk hle h1 h2
        go_wp2_with (first | (go_at_call 112; refine HT.out.mono ?_; rw [HY.out]; rintro e w1 ⟨rfl, hb1⟩) | (go_at_call 113; refine (HP.out _).mono ?_; rw [HB.out]; rintro e w2 ⟨rfl, rfl⟩) | (go_at_call 114; refine (HI.out _).mono ?_; rw [HJ.out]; rintro e w2 ⟨rfl, rfl⟩))
        go_ret
        exact ⟨ret_str (by rw [HL.out]; exact bytes_ext (by rw [show d + (k + (s.size - (d + k))) = s.size by omega, extract_end]; rfl)), hb.trans (hb1.mono hz)⟩
      · have HP := Lib.hid (Tryz.strings_HasPrefix y ⟨#[45, 45]⟩)
        have HI := Lib.hid (Tryz.strings_Index_one y 10)
        have HJ := Lib.hid h1
        rw [leadF_some i _ h2 h4] at hl
        rw [← Lib.size_eq] at h3
        have hi0 := pre_one _ _ hp h2
        have HL := Lib.hid hl
        have HB := Lib.hid hpre
        have hq : (y.extract i y.size).data.toList = s.data.toList.drop (d + k + i) := by
          rw [extract_end, hdrop, hx, List.drop_drop, List.drop_drop]
          congr 1
          omega
        have hq2 : y.data.toList.drop i = s.data.toList.drop (d + k + i) := by rw [← hq, extract_end]
        have hes : (y.extract i y.size).size = y.size - i := by rw [ByteArray.size_extract]; omega
        rw [hys] at hq hes
        have HQ := Lib.hid hq
        have HQ2 := Lib.hid hq2
        have HES := Lib.hid hes
        clear hl hy hyl hx hnone hdrop hp hpre hk hle h1 h2 h4 hq hq2 hes
        go_wp2_with (first | (go_at_call 112; refine HT.out.mono ?_; rw [HY.out]; rintro e w1 ⟨rfl, hb1⟩) | (go_at_call 113; refine (HP.out _).mono ?_; rw [HB.out]; rintro e w2 ⟨rfl, rfl⟩) | (go_at_call 114; refine (HI.out _).mono ?_; rw [HJ.out]; rintro e w2 ⟨rfl, rfl⟩))
        go_roundw
        case rel => exact ⟨d + k + i, _, rfl, by omega, HQ.out, by rw [HL.out, HQ2.out]; omega, hb.trans (hb1.mono hz)⟩
        case measure => simp only [strLen]; rw [HES.out]; omega
    · have hpre : Lib.hasPrefix y.data.toList (ByteArray.mk #[45, 45]).data.toList = false := by
        cases h : Lib.hasPrefix y.data.toList (ByteArray.mk #[45, 45]).data.toList with
        | false => rfl
        | true => exact absurd (List.isPrefixOf_iff_prefix.1 h) hp
      rw [leadF_stop _ hp hnone, Nat.add_zero] at hl
      have HP := Lib.hid (Tryz.strings_HasPrefix y ⟨#[45, 45]⟩)
      have HL := Lib.hid hl
      have HB := Lib.hid hpre
      clear hl hy hyl hx hnone hdrop hp hpre hk hle
      go_wp2_with (first | (go_at_call 112; refine HT.out.mono ?_; rw [HY.out]; rintro e w1 ⟨rfl, hb1⟩) | (go_at_call 113; refine (HP.out _).mono ?_; rw [HB.out]; rintro e w2 ⟨rfl, rfl⟩))
      go_ret
      exact ⟨ret_str (by rw [HL.out]; congr 1; omega), hb.trans (hb1.mono hz)⟩
end Go.Proofs.YtemkhbmkaalgdaaGreatDoor

namespace Go.Proofs.YtemkhbmkaalgdaaGreatDoor
open Go.RowKit
def tokV (s : ByteArray) (t : Nat × Nat × Nat) : Value := .tuple #[.int .i64 t.1, .string (s.extract 0 t.2.1), .int .i64 t.2.2]
theorem ret_tok {s : ByteArray} {t : Nat × Nat × Nat} {a b : Int} {x : ByteArray} (h1 : a = t.1) (h2 : x = s.extract 0 t.2.1) (h3 : b = t.2.2) : Ending.returned (.tuple #[.int .i64 a, .string x, .int .i64 b]) = .returned (tokV s t) := by
  rw [h1, h2, h3]; rfl
theorem ext_none (s : ByteArray) : (⟨#[]⟩ : ByteArray) = s.extract 0 0 := bytes_ext (by rw [extract_list]; rfl)
theorem ext_size (s : ByteArray) (k : Nat) (h : k ≤ s.size) : (s.extract 0 k).size = k := by rw [ByteArray.size_extract]; omega
theorem take_takeWhile (p : UInt8 → Bool) (T : List UInt8) : T.take (T.takeWhile p).length = T.takeWhile p := by
  obtain ⟨r, hr⟩ := List.takeWhile_prefix (p := p) (l := T)
  conv => lhs; arg 2; rw [← hr]
  simp
theorem run_le (p : UInt8 → Bool) (s : ByteArray) : runL p s ≤ s.size := by rw [Lib.size_eq]; exact takeWhile_le p _
theorem run_list (p : UInt8 → Bool) (s : ByteArray) : (s.extract 0 (runL p s)).data.toList = s.data.toList.takeWhile p := by
  rw [extract_list, List.drop_zero, runL, take_takeWhile]
set_option maxHeartbeats 1000000 in
set_option maxRecDepth 100000 in
theorem number_any (s : ByteArray) (w : World) (hs : s.size ≤ 1099511627776) :
    Calls Tryz.prog 118 #[.string s] w fun e w' => e = .returned (tokV s (numF s.data.toList)) ∧ w' = w := by
  have hr := run_le digitB s
  have hn := run_list digitB s
  have hz := ext_size s _ hr
  have HR := Lib.hid (run_digit s w hs)
  by_cases h60 : 60 < runL digitB s
  · have hq : numF s.data.toList = (0, 0, 21) := by rw [numF, if_pos (.inl h60)]
    have HQ := Lib.hid hq
    generalize hy : s.extract 0 (runL digitB s) = y at HR hz
    have hI : (60 : Int) < ↑y.size := by omega
    have hD : decide ((60 : Int) < ↑y.size) = true := decide_eq_true hI
    clear hq hn hz
    go_enter Tryz.func118, Tryz.ntmps118
    go_wp2_with (go_at_call 135; refine HR.out.mono ?_; rintro e w1 ⟨rfl, rfl⟩)
    go_ret3
    refine ⟨ret_tok (t := numF s.data.toList) ?_ ?_ ?_, rfl⟩ <;> rw [HQ.out]
    · rfl
    · exact ext_none s
    · rfl
  · by_cases h1 : 1 < runL digitB s
    · have h0 : 0 < (s.extract 0 (runL digitB s)).size := by omega
      generalize hy : s.extract 0 (runL digitB s) = y at HR hz hn h0
      have hb := byte_is h0
      rw [hn] at hb
      have hI : ¬ (60 : Int) < ↑y.size := by omega
      have hD : decide ((60 : Int) < ↑y.size) = false := decide_eq_false hI
      have hI1 : (1 : Int) < ↑y.size := by omega
      have hD1 : decide ((1 : Int) < ↑y.size) = true := decide_eq_true hI1
      by_cases hc : (y[0]'h0) = 48
      · have hq : numF s.data.toList = (0, 0, 21) := by rw [numF, if_pos (.inr ⟨h1, by rw [hb, hc]⟩)]
        have hE : (((y[0]'h0).toNat : Int) == 48) = true := by rw [hc]; rfl
        have HQ := Lib.hid hq
        clear hq hn hb hc hz
        go_enter Tryz.func118, Tryz.ntmps118
        go_wp2_with (go_at_call 135; refine HR.out.mono ?_; rintro e w1 ⟨rfl, rfl⟩)
        go_ret3
        refine ⟨ret_tok (t := numF s.data.toList) ?_ ?_ ?_, rfl⟩ <;> rw [HQ.out]
        · rfl
        · exact ext_none s
        · rfl
      · have hq : numF s.data.toList = (3, runL digitB s, 0) := by
          rw [numF, if_neg]
          · rfl
          · rintro (h | ⟨_, h⟩)
            · exact h60 h
            · rw [hb] at h; injection h with h; exact hc h
        have hE : (((y[0]'h0).toNat : Int) == 48) = false := by
          rw [← Bool.not_eq_true, beq_iff_eq]
          intro h
          exact hc (UInt8.toNat_inj.1 (by show _ = 48; omega))
        have HQ := Lib.hid hq
        have HY := Lib.hid hy
        clear hq hn hb hc hy hz
        go_enter Tryz.func118, Tryz.ntmps118
        go_wp2_with (go_at_call 135; refine HR.out.mono ?_; rintro e w1 ⟨rfl, rfl⟩)
        go_ret3
        refine ⟨ret_tok (t := numF s.data.toList) ?_ ?_ ?_, rfl⟩ <;> rw [HQ.out]
        · rfl
        · exact HY.out.symm
        · rfl
    · have hq : numF s.data.toList = (3, runL digitB s, 0) := by
        rw [numF, if_neg]
        · rfl
        · rintro (h | ⟨h, _⟩)
          · exact h60 h
          · exact h1 h
      generalize hy : s.extract 0 (runL digitB s) = y at HR hz
      have hI : ¬ (60 : Int) < ↑y.size := by omega
      have hD : decide ((60 : Int) < ↑y.size) = false := decide_eq_false hI
      have hI1 : ¬ (1 : Int) < ↑y.size := by omega
      have hD1 : decide ((1 : Int) < ↑y.size) = false := decide_eq_false hI1
      have HQ := Lib.hid hq
      have HY := Lib.hid hy
      clear hq hn hy hz
      go_enter Tryz.func118, Tryz.ntmps118
      go_wp2_with (go_at_call 135; refine HR.out.mono ?_; rintro e w1 ⟨rfl, rfl⟩)
      go_ret3
      refine ⟨ret_tok (t := numF s.data.toList) ?_ ?_ ?_, rfl⟩ <;> rw [HQ.out]
      · rfl
      · exact HY.out.symm
      · rfl
end Go.Proofs.YtemkhbmkaalgdaaGreatDoor

namespace Go.Proofs.YtemkhbmkaalgdaaGreatDoor
open Go.RowKit
set_option maxHeartbeats 1000000 in
set_option maxRecDepth 100000 in
theorem keys_any (w : World) : Calls Tryz.prog 137 #[] w fun e w' => e = .returned (.agg #[.string ⟨#[97, 115, 115, 101, 114, 116]⟩, .string ⟨#[98, 111, 111, 108]⟩, .string ⟨#[101, 108, 115, 101]⟩, .string ⟨#[102, 97, 108, 115, 101]⟩, .string ⟨#[102, 117, 110]⟩, .string ⟨#[105, 102]⟩, .string ⟨#[105, 109, 112, 111, 114, 116]⟩, .string ⟨#[105, 110]⟩, .string ⟨#[105, 110, 116]⟩, .string ⟨#[108, 101, 116]⟩, .string ⟨#[110, 111, 116]⟩, .string ⟨#[112, 117, 98]⟩, .string ⟨#[114, 101, 115]⟩, .string ⟨#[116, 104, 101, 110]⟩, .string ⟨#[116, 114, 117, 101]⟩]) ∧ Below w.heap.size w w' := by
  go_enter Tryz.func137, Tryz.ntmps137
  go_wp2
  refine bodyPost_ret (v := .agg #[.string ⟨#[97, 115, 115, 101, 114, 116]⟩, .string ⟨#[98, 111, 111, 108]⟩, .string ⟨#[101, 108, 115, 101]⟩, .string ⟨#[102, 97, 108, 115, 101]⟩, .string ⟨#[102, 117, 110]⟩, .string ⟨#[105, 102]⟩, .string ⟨#[105, 109, 112, 111, 114, 116]⟩, .string ⟨#[105, 110]⟩, .string ⟨#[105, 110, 116]⟩, .string ⟨#[108, 101, 116]⟩, .string ⟨#[110, 111, 116]⟩, .string ⟨#[112, 117, 98]⟩, .string ⟨#[114, 101, 115]⟩, .string ⟨#[116, 104, 101, 110]⟩, .string ⟨#[116, 114, 117, 101]⟩]) (results_cell_row rfl _ _ w.heap.size 196 _ (0, 0) _ rfl (heap_alloc_new _ _) Tryz.underlying196 rfl (by kernel_rfl)) rfl ⟨rfl, (Below.refl _ _).alloc (Nat.le_refl _) _⟩
def keySx (x : ByteArray) (j : Nat) : ByteArray := if j < 15 then ⟨(keyL.getD j []).toArray⟩ else x
theorem key_halve : ∀ j : Fin 15, Lib.bsGo (fun t => Op.bytesLess (if t < 15 then keyL.getD t [] else keyL.getD j []) (keyL.getD j [])) 15 0 15 = j := by decide
theorem keySx_list (x : ByteArray) (j : Nat) : (keySx x j).data.toList = if j < 15 then keyL.getD j [] else x.data.toList := by
  unfold keySx
  split <;> rfl
theorem key_cells (x : ByteArray) : ∀ j, j < 15 → (#[.string ⟨#[97, 115, 115, 101, 114, 116]⟩, .string ⟨#[98, 111, 111, 108]⟩, .string ⟨#[101, 108, 115, 101]⟩, .string ⟨#[102, 97, 108, 115, 101]⟩, .string ⟨#[102, 117, 110]⟩, .string ⟨#[105, 102]⟩, .string ⟨#[105, 109, 112, 111, 114, 116]⟩, .string ⟨#[105, 110]⟩, .string ⟨#[105, 110, 116]⟩, .string ⟨#[108, 101, 116]⟩, .string ⟨#[110, 111, 116]⟩, .string ⟨#[112, 117, 98]⟩, .string ⟨#[114, 101, 115]⟩, .string ⟨#[116, 104, 101, 110]⟩, .string ⟨#[116, 114, 117, 101]⟩] : Array Value)[0 + j]? = some (.string (keySx x j))
  | 0, _ => rfl
  | 1, _ => rfl
  | 2, _ => rfl
  | 3, _ => rfl
  | 4, _ => rfl
  | 5, _ => rfl
  | 6, _ => rfl
  | 7, _ => rfl
  | 8, _ => rfl
  | 9, _ => rfl
  | 10, _ => rfl
  | 11, _ => rfl
  | 12, _ => rfl
  | 13, _ => rfl
  | 14, _ => rfl
  | n + 15, h => absurd h (by omega)
theorem key_mem (j : Nat) (hj : j < 15) : keyL.getD j [] ∈ keyL := by
  have hj0 : j < keyL.length := hj
  rw [List.getD_eq_getElem?_getD, List.getElem?_eq_getElem hj0, Option.getD_some]
  exact List.getElem_mem _
theorem key_found (x : ByteArray) : decide (Lib.bsGo (fun t => Op.bytesLess (keySx x t).toList x.toList) 15 0 15 < 15 ∧ keySx x (Lib.bsGo (fun t => Op.bytesLess (keySx x t).toList x.toList) 15 0 15) = x) = decide (x.data.toList ∈ keyL) := by
  simp only [Lib.toList_data, keySx_list]
  by_cases h : x.data.toList ∈ keyL
  · obtain ⟨j, hj0, e⟩ := List.mem_iff_getElem.1 h
    have ek : keyL.getD j [] = x.data.toList := by rw [List.getD_eq_getElem?_getD, List.getElem?_eq_getElem hj0, Option.getD_some, e]
    have hj : j < 15 := hj0
    have hk := key_halve ⟨j, hj⟩
    simp only [ek] at hk
    rw [hk, decide_eq_true h, decide_eq_true]
    refine ⟨hj, bytes_ext ?_⟩
    rw [keySx_list, if_pos hj, ek]
  · rw [decide_eq_false h, decide_eq_false]
    rintro ⟨hb, e⟩
    apply h
    rw [← e, keySx_list, if_pos hb]
    exact key_mem _ hb
def SearchOk (x : ByteArray) (w : World) (e : Ending) (w' : World) : Prop :=
  (∃ n : Nat, e = .returned (.tuple #[.int .i64 n, .bool (decide (x.data.toList ∈ keyL))])) ∧ Below w.heap.size w w'
theorem search_any (b : Nat) (x : ByteArray) (w : World) (hc : ∀ j, j < 15 → w.cell? ⟨b, 0 + j, none⟩ = some (.string (keySx x j))) :
    Calls Tryz.prog 138 #[.slice (some ⟨b, 0, none⟩) 15 15, .string x] w (SearchOk x w) := by
  refine (Any2.slices_BinarySearch_string Tryz.lays2x26 b 0 15 15 (keySx x) x w (by decide) hc).mono ?_
  rintro e w' ⟨rfl, q, rfl⟩
  rw [key_found]
  exact ⟨⟨_, rfl⟩, below_drewN (Below.refl _ _) _⟩
set_option maxHeartbeats 1000000 in
set_option maxRecDepth 100000 in
theorem word_any (s : ByteArray) (w : World) (hs : s.size ≤ 1099511627776) :
    Calls Tryz.prog 116 #[.string s] w fun e w' => e = .returned (tokV s (wordF s.data.toList)) ∧ Below w.heap.size w w' := by
  have hr := run_le insideB s
  have hn := run_list insideB s
  have hz := ext_size s _ hr
  have HR := Lib.hid (run_inside s w hs)
  by_cases h40 : 40 < runL insideB s
  · have hq : wordF s.data.toList = (0, 0, 20) := by unfold wordF; exact if_pos h40
    have HQ := Lib.hid hq
    generalize hy : s.extract 0 (runL insideB s) = y at HR hz
    have hI : (40 : Int) < ↑y.size := by omega
    clear hq hn hz
    go_enter Tryz.func116, Tryz.ntmps116
    go_wp2_with (go_at_call 135; refine HR.out.mono ?_; rintro e w1 ⟨rfl, rfl⟩)
    go_ret3
    refine ⟨ret_tok (t := wordF s.data.toList) ?_ ?_ ?_, Below.refl _ _⟩ <;> rw [HQ.out]
    · rfl
    · exact ext_none s
    · rfl
  · have hq : wordF s.data.toList = (if s.data.toList.takeWhile insideB ∈ keyL then (2, runL insideB s, 0) else (1, runL insideB s, 0)) := by unfold wordF; exact if_neg h40
    have HQ := Lib.hid hq
    generalize hy : s.extract 0 (runL insideB s) = y at HR hz hn
    have HY := Lib.hid hy
    have HN := Lib.hid hn
    have hI : ¬ (40 : Int) < ↑y.size := by omega
    clear hq hn hy hz
    go_enter Tryz.func116, Tryz.ntmps116
    go_wp2_with (first | (go_at_call 135; refine HR.out.mono ?_; rintro e w1 ⟨rfl, rfl⟩) | (go_at_call 137; refine (keys_any _).mono ?_; rintro e w2 ⟨rfl, hb⟩) | (go_at_call 138; refine (search_any _ y _ ?c1).mono ?_))
    case c1 =>
      intro j hj
      rw [Lib.cell_of_heap (heap_alloc_new _ _)]
      exact key_cells y j hj
    rintro e w3 ⟨⟨n, rfl⟩, hb3⟩
    have hbb := (hb.alloc hb.size _).trans (hb3.mono (by have := hb.size; simp; omega))
    cases hk : decide (y.data.toList ∈ keyL) with
    | true =>
      have HK := Lib.hid hk
      clear hk
      go_wp2
      go_ret3
      refine ⟨ret_tok (t := wordF s.data.toList) ?_ ?_ ?_, hbb⟩ <;> rw [HQ.out, if_pos (by rw [← HN.out]; exact of_decide_eq_true HK.out)]
      · rfl
      · exact HY.out.symm
      · rfl
    | false =>
      have HK := Lib.hid hk
      clear hk
      go_wp2
      go_ret3
      refine ⟨ret_tok (t := wordF s.data.toList) ?_ ?_ ?_, hbb⟩ <;> rw [HQ.out, if_neg (by rw [← HN.out]; exact of_decide_eq_false HK.out)]
      · rfl
      · exact HY.out.symm
      · rfl
end Go.Proofs.YtemkhbmkaalgdaaGreatDoor

namespace Go.Proofs.YtemkhbmkaalgdaaGreatDoor
open Go.RowKit
def signV : Array Value := (signL.map fun x => Value.string ⟨x.toArray⟩).toArray
set_option maxHeartbeats 400000 in
set_option maxRecDepth 100000 in
theorem signs_any (w : World) : Calls Tryz.prog 119 #[] w fun e w' => e = .returned (.agg signV) ∧ Below w.heap.size w w' := by
  go_enter Tryz.func119, Tryz.ntmps119
  apply wp_seq_k
  intro K0 hK0
  have HK := Lib.hid hK0
  clear hK0
  go_wp2
  apply HK.out
  apply wp_seq_k
  intro K1 hK1
  apply wp_region_lit
  refine wpList_buildTo rfl 180 _ rfl (some 1) rfl signV (by kernel_rfl) ?_
  refine wpList_store_rowTo rfl 180 _ _ rfl rfl w.heap.size signV rfl rfl 180 _ (heap_alloc_new _ _) (by kernel_rfl) (by decide) (by kernel_rfl) ?_
  rw [World.setRow_alloc_new]
  apply wpList_nil
  apply hK1
  go_wp2
  refine bodyPost_ret (v := .agg signV) (results_cell_row rfl _ _ w.heap.size 180 _ (0, 0) _ rfl (heap_alloc_new _ _) Tryz.underlying180 rfl (by kernel_rfl)) rfl ⟨rfl, (Below.refl _ _).alloc (Nat.le_refl _) _⟩
end Go.Proofs.YtemkhbmkaalgdaaGreatDoor

namespace Go.Proofs.YtemkhbmkaalgdaaGreatDoor
open Go.RowKit
theorem head_cons {s : ByteArray} (h : 0 < s.size) : ∃ r, s.data.toList = (s[0]'h) :: r := by
  have hb := byte_is h
  cases hq : s.data.toList with
  | nil => rw [hq] at hb; cases hb
  | cons c r =>
    rw [hq] at hb
    injection hb with hb
    rw [← hb]
    exact ⟨r, rfl⟩
def signAt (k : Nat) : ByteArray := ⟨(signL.getD k []).toArray⟩
theorem sign_find (T : List UInt8) : ∀ (l : List (List UInt8)) (k : Nat), k < l.length → (∀ j, j < k → Lib.hasPrefix T (l.getD j []) = false) → Lib.hasPrefix T (l.getD k []) = true → l.find? (fun x => x.isPrefixOf T) = some (l.getD k [])
  | [], k, hk, _, _ => absurd hk (by simp)
  | x :: l, 0, _, _, h => by
    have h : x.isPrefixOf T = true := h
    simp [h]
  | x :: l, k + 1, hk, hj, h => by
    have h0 : x.isPrefixOf T = false := hj 0 (by omega)
    have := sign_find T l k (by simpa using hk) (fun j hjk => by simpa using hj (j + 1) (by omega)) (by simpa using h)
    simp only [List.find?_cons, h0]
    simpa using this
theorem sign_none (T : List UInt8) (l : List (List UInt8)) (hj : ∀ j, j < l.length → Lib.hasPrefix T (l.getD j []) = false) : l.find? (fun x => x.isPrefixOf T) = none := by
  rw [List.find?_eq_none]
  intro x hx
  obtain ⟨j, hjl, e⟩ := List.mem_iff_getElem.1 hx
  have := hj j hjl
  rw [List.getD_eq_getElem?_getD, List.getElem?_eq_getElem hjl, Option.getD_some, e] at this
  intro h
  rw [Lib.hasPrefix] at this
  rw [this] at h
  cases h
theorem sign_index : ∀ k : Nat, k < 22 → ∀ w : World, (Instr.index 180 (.agg signV) (.int .i64 k)).run Tryz.prog w = .ok (.string (signAt k)) w
  | 0, _ => fun _ => by kernel_rfl
  | 1, _ => fun _ => by kernel_rfl
  | 2, _ => fun _ => by kernel_rfl
  | 3, _ => fun _ => by kernel_rfl
  | 4, _ => fun _ => by kernel_rfl
  | 5, _ => fun _ => by kernel_rfl
  | 6, _ => fun _ => by kernel_rfl
  | 7, _ => fun _ => by kernel_rfl
  | 8, _ => fun _ => by kernel_rfl
  | 9, _ => fun _ => by kernel_rfl
  | 10, _ => fun _ => by kernel_rfl
  | 11, _ => fun _ => by kernel_rfl
  | 12, _ => fun _ => by kernel_rfl
  | 13, _ => fun _ => by kernel_rfl
  | 14, _ => fun _ => by kernel_rfl
  | 15, _ => fun _ => by kernel_rfl
  | 16, _ => fun _ => by kernel_rfl
  | 17, _ => fun _ => by kernel_rfl
  | 18, _ => fun _ => by kernel_rfl
  | 19, _ => fun _ => by kernel_rfl
  | 20, _ => fun _ => by kernel_rfl
  | 21, _ => fun _ => by kernel_rfl
  | n + 22, h => absurd h (by omega)
theorem signAt_list (k : Nat) : (signAt k).data.toList = signL.getD k [] := rfl
theorem sign_len : signL.length = 22 := rfl
set_option maxHeartbeats 1000000 in
set_option maxRecDepth 100000 in
theorem token_any (s : ByteArray) (w : World) (hs : s.size ≤ 1099511627776) :
    Calls Tryz.prog 79 #[.string s] w fun e w' => e = .returned (tokV s (tokF s.data.toList)) ∧ Below w.heap.size w w' := by
  by_cases h0 : 0 < s.size
  · obtain ⟨r, hr⟩ := head_cons h0
    have hI : (0 : Int) < ↑s.size := by omega
    have he : s.toList.isEmpty = false := by rw [isEmpty_size]; exact decide_eq_false (by omega)
    generalize hc : (s[0]'h0) = c at hr
    by_cases hl : letterB c = true
    · have hl' : letterB (s[0]'h0) = true := by rw [hc]; exact hl
      have hq : tokF s.data.toList = wordF s.data.toList := by rw [hr, tokF, if_pos hl]
      have HQ := Lib.hid hq
      have HW := Lib.hid (word_any s)
      clear hq hr hc hl
      go_enter Tryz.func79, Tryz.ntmps79
      go_wp2_with (first | (go_at_call 115; refine (letter_any _ _).mono ?_; rintro e w1 ⟨rfl, rfl⟩) | (go_at_call 116; refine (HW.out _ hs).mono ?_; rintro e w1 ⟨he, hb⟩; rw [tokV] at he; subst he))
      go_ret3
      refine ⟨ret_tok (t := tokF s.data.toList) ?_ ?_ ?_, hb⟩ <;> rw [HQ.out]
    · have hl' : letterB (s[0]'h0) = false := by rw [hc]; simpa using hl
      by_cases hd : digitB c = true
      · have hd' : digitB (s[0]'h0) = true := by rw [hc]; exact hd
        have hq : tokF s.data.toList = numF s.data.toList := by rw [hr, tokF, if_neg hl, if_pos hd]
        have HQ := Lib.hid hq
        have HW := Lib.hid (number_any s)
        clear hq hr hc hl hd
        go_enter Tryz.func79, Tryz.ntmps79
        go_wp2_with (first | (go_at_call 115; refine (letter_any _ _).mono ?_; rintro e w1 ⟨rfl, rfl⟩) | (go_at_call 117; refine (digit_any _ _).mono ?_; rintro e w1 ⟨rfl, rfl⟩) | (go_at_call 118; refine (HW.out _ hs).mono ?_; rintro e w1 ⟨he, rfl⟩; rw [tokV] at he; subst he))
        go_ret3
        refine ⟨ret_tok (t := tokF s.data.toList) ?_ ?_ ?_, Below.refl _ _⟩ <;> rw [HQ.out]
      · have hd' : digitB (s[0]'h0) = false := by rw [hc]; simpa using hd
        have hq : tokF s.data.toList = symF s.data.toList := by rw [hr, tokF, if_neg hl, if_neg hd]
        have HQ := Lib.hid hq
        clear hq hr hc hl hd
        go_enter Tryz.func79, Tryz.ntmps79
        go_wp2_with (first | (go_at_call 115; refine (letter_any _ _).mono ?_; rintro e w1 ⟨rfl, rfl⟩) | (go_at_call 117; refine (digit_any _ _).mono ?_; rintro e w1 ⟨rfl, rfl⟩) | (go_at_call 119; refine (signs_any _).mono ?_; rintro e w1 ⟨rfl, hb⟩))
        go_loop [6, 29] (fun x n => ∃ k : Nat, n = .int .i64 k ∧ k ≤ 22 ∧ ∀ j, j < k → Lib.hasPrefix s.data.toList (signL.getD j []) = false) (fun _ n => 22 - (intOf n).toNat)
        case atStart => exact ⟨0, rfl, by omega, fun j hj => absurd hj (by omega)⟩
        case round =>
          obtain ⟨k, rfl, hk, hj⟩ := hrel
          have HJ := Lib.hid hj
          have HP := Lib.hid (Tryz.strings_HasPrefix s)
          clear hj
          by_cases hlt : k < 22
          · have hi : (k : Int) < 22 := by omega
            have hx := sign_index k hlt
            cases hb2 : Lib.hasPrefix s.data.toList (signAt k).data.toList with
            | true =>
              have hf := sign_find s.data.toList signL k (by rw [sign_len]; exact hlt) HJ.out hb2
              have hq : tokF s.data.toList = (4, (signL.getD k []).length, 0) := by rw [HQ.out, symF, signF, hf]
              have HB := Lib.hid hb2
              have HQ2 := Lib.hid hq
              have hX : signAt k = s.extract 0 (signL.getD k []).length := by
                refine bytes_ext ?_
                rw [extract_list, List.drop_zero, signAt_list]
                exact (List.prefix_iff_eq_take.1 (List.isPrefixOf_iff_prefix.1 hb2))
              have HX := Lib.hid hX
              clear hb2 hf hq hX
              go_wp2_with (go_at_call 113; refine (HP.out (signAt k) _).mono ?_; rw [HB.out]; rintro e w2 ⟨rfl, rfl⟩)
              go_ret3
              refine ⟨ret_tok (t := tokF s.data.toList) ?_ ?_ ?_, hb⟩ <;> rw [HQ2.out]
              · rfl
              · exact HX.out
              · rfl
            | false =>
              have HB := Lib.hid hb2
              clear hb2
              go_wp2_with (go_at_call 113; refine (HP.out (signAt k) _).mono ?_; rw [HB.out]; rintro e w2 ⟨rfl, rfl⟩)
              go_round
              case rel =>
                refine ⟨k + 1, by go_num, by omega, fun j hj => ?_⟩
                rcases Nat.lt_or_ge j k with h | h
                · exact HJ.out j h
                · have : j = k := by omega
                  subst this
                  exact HB.out
              case measure => simp [intOf]; omega
          · have hk2 : k = 22 := by omega
            subst hk2
            have hq : tokF s.data.toList = (0, 0, 20) := by rw [HQ.out, symF, signF, sign_none _ _ (fun j hj => HJ.out j hj)]
            have HQ2 := Lib.hid hq
            clear hq hlt hk
            go_wp2
            go_ret3
            refine ⟨ret_tok (t := tokF s.data.toList) ?_ ?_ ?_, hb⟩ <;> rw [HQ2.out]
            · rfl
            · exact ext_none s
            · rfl
  · have hz : s.size = 0 := by omega
    have he : s.toList.isEmpty = true := by rw [isEmpty_size]; exact decide_eq_true hz
    have hn : s.data.toList = [] := List.eq_nil_of_length_eq_zero (by rw [← Lib.size_eq]; exact hz)
    have hq : tokF s.data.toList = (5, 0, 0) := by rw [hn, tokF]
    have HQ := Lib.hid hq
    clear hq hn hz h0
    go_enter Tryz.func79, Tryz.ntmps79
    go_wp2
    go_ret3
    refine ⟨ret_tok (t := tokF s.data.toList) ?_ ?_ ?_, Below.refl _ _⟩ <;> rw [HQ.out]
    · rfl
    · exact ext_none s
    · rfl
end Go.Proofs.YtemkhbmkaalgdaaGreatDoor

namespace Go.Proofs
theorem Tryz.infoToken : (Tryz.prog.info? 83).map (fun i => (i.zero, i.size, i.bytes)) = some (some (.agg #[.int .i64 0, .string ByteArray.empty, .string ByteArray.empty, .int .i64 0]), 4, 48) := by kernel_rfl
end Go.Proofs
