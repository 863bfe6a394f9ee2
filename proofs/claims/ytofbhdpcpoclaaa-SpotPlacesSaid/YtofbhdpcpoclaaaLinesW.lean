/- The walks of strings.Cut at a byte 10, spot.begins, spot.Line and the reference's Lines. -/
import Derived.Test.YtofbhdpcpoclaaaLinesPlain
import Derived.Test.YtofbhdpcpoclaaaSpotPuts
namespace Go.Proofs.Ytofbhdpcpoclaaa
open Go.RowKit

theorem idx_range (T : List UInt8) : -1 ≤ idxInt T ∧ idxInt T < T.length := by
  rcases idx_cases T with ⟨h1, _⟩ | ⟨i, h1, _, h3, _⟩
  · rw [idxInt, h1]; exact ⟨Int.le_refl _, by show (-1 : Int) < _; omega⟩
  · rw [idxInt, h1]; exact ⟨by simp only; omega, by simp only; omega⟩

/-- What strings.Cut leaves. -/
def Cut1 (s : ByteArray) (w : World) (e : Ending) (w' : World) : Prop :=
  (∃ (a b : ByteArray) (f : Bool), e = .returned (.tuple #[.string a, .string b, .bool f]) ∧ a.data.toList = firstL s.data.toList) ∧ ∃ n, w' = w.drewN n

set_option maxHeartbeats 1000000 in
set_option maxRecDepth 100000 in
theorem liteCut (s : ByteArray) (w : World) (hs : s.size ≤ 1099511627776) : Calls Try.prog 32 #[.string s, .string ⟨#[10]⟩] w (Cut1 s w) := by
  have hix := Try.stringslite_Index_one s 10 w
  rw [idxInt_eq] at hix
  rcases idx_cases s.data.toList with ⟨h1, h2⟩ | ⟨i, h1, h2, h3, h4⟩
  · have hq : idxInt s.data.toList = -1 := by rw [idxInt, h1]
    rw [hq] at hix
    have HI := Lib.hid hix
    clear hix
    go_enter Try.func32, Try.ntmps32
    go_wp2_with (go_at_call 38; refine HI.out.mono ?_; rintro e w' ⟨rfl, rfl⟩)
    go_ret3
    exact ⟨⟨_, _, _, rfl, by rw [firstL, h1]⟩, 0, rfl⟩
  · have hq : idxInt s.data.toList = i := by rw [idxInt, h1]
    rw [hq] at hix
    have HI := Lib.hid hix
    rw [size_list] at h3
    have c1 : (0 : Int) ≤ ↑i := by omega
    have c2 : (↑i : Int) ≤ ↑s.size := by omega
    have c3 : (0 : Int) ≤ ↑i + 1 := by omega
    have c4 : (↑i + 1 : Int) ≤ ↑s.size := by omega
    clear hix
    go_enter Try.func32, Try.ntmps32
    go_wp2_with (go_at_call 38; refine HI.out.mono ?_; rintro e w' ⟨rfl, rfl⟩)
    go_region
    go_wp2
    go_ret3
    refine ⟨⟨_, _, _, rfl, ?_⟩, 1, rfl⟩
    rw [firstL, h1]
    simp [Lib.extract_data]

set_option maxHeartbeats 1000000 in
set_option maxRecDepth 100000 in
theorem cut1_any (s : ByteArray) (w : World) (hs : s.size ≤ 1099511627776) : Calls Try.prog 27 #[.string s, .string ⟨#[10]⟩] w (Cut1 s w) := by
  go_enter Try.func27, Try.ntmps27
  go_wp2_with (go_at_call 32; refine (liteCut s _ hs).mono ?_)
  rintro e w1 ⟨⟨a, b, f, rfl, ha⟩, n, rfl⟩
  go_wp2
  go_ret3
  exact ⟨⟨_, _, _, rfl, ha⟩, n, rfl⟩

set_option maxHeartbeats 1000000 in
set_option maxRecDepth 100000 in
theorem begins_some (s : ByteArray) (n a : Nat) (w : World) (hs : s.size ≤ 1099511627776) (hn : n < 9223372036854775807) (hb : begF s.data.toList n 0 = some a) :
    Calls Try.prog 26 #[.string s, .int .i64 (n + 1)] w fun e w' => e = .returned (.tuple #[.int .i64 a, .bool true]) ∧ w = w' := by
  have HB := Lib.hid hb
  clear hb
  go_enter Try.func26, Try.ntmps26
  go_wp2
  go_loop [6, 7] (fun aa kk => ∃ k at0 : Nat, k ≤ n ∧ kk = .int .i64 (k + 1) ∧ aa = .int .i64 at0 ∧ at0 ≤ s.size ∧ begF s.data.toList (n - k) at0 = some a) (fun _ kk => n + 1 - (intOf kk).toNat)
  case atStart => exact ⟨0, 0, by omega, rfl, rfl, by omega, HB.out⟩
  case round =>
    obtain ⟨k, at0, hk, rfl, rfl, hat, hbk⟩ := hrel
    by_cases hlt : k < n
    · obtain ⟨m, hm⟩ : ∃ m, n - k = m + 1 := ⟨n - k - 1, by omega⟩
      rw [hm, begF] at hbk
      have hd : (s.extract at0 s.size).data.toList = s.data.toList.drop at0 := extract_end s at0
      rcases idx_cases (s.data.toList.drop at0) with ⟨h1, h2⟩ | ⟨i, h1, h2, h3, h4⟩
      · rw [h1] at hbk; cases hbk
      · rw [h1] at hbk
        simp only at hbk
        rw [List.length_drop, size_list] at h3
        have hix := Try.strings_Index_one (s.extract at0 s.size) 10 w
        have hq : idxInt (s.data.toList.drop at0) = i := by rw [idxInt, h1]
        rw [idxInt_eq, hd, hq] at hix
        have HI := Lib.hid hix
        have HK := Lib.hid hbk
        have HM := Lib.hid hm
        clear hix hbk hm hd h1 h2 h4 hq
        go_wp2_with (go_at_call 31; refine HI.out.mono ?_; rintro e w' ⟨rfl, rfl⟩)
        go_round
        case rel => exact ⟨k + 1, at0 + i + 1, by omega, by go_num, by go_num, by omega, by rw [show n - (k + 1) = m by have := HM.out; omega]; exact HK.out⟩
        case measure => simp [intOf]; omega
    · have hkn : k = n := by omega
      subst hkn
      rw [Nat.sub_self, begF] at hbk
      injection hbk with hbk
      subst hbk
      have hd1 : decide ((1 : Int) ≤ (k : Int) + 1) = true := decide_eq_true (by omega)
      go_wp2
      go_ret2
      exact ⟨rfl, rfl⟩

set_option maxHeartbeats 1000000 in
set_option maxRecDepth 100000 in
theorem begins_none (s : ByteArray) (n : Nat) (w : World) (hs : s.size ≤ 1099511627776) (hn : n < 9223372036854775807) (hb : begF s.data.toList n 0 = none) :
    Calls Try.prog 26 #[.string s, .int .i64 (n + 1)] w fun e w' => e = .returned (.tuple #[.int .i64 0, .bool false]) ∧ w = w' := by
  have HB := Lib.hid hb
  clear hb
  go_enter Try.func26, Try.ntmps26
  go_wp2
  go_loop [6, 7] (fun aa kk => ∃ k at0 : Nat, k ≤ n ∧ kk = .int .i64 (k + 1) ∧ aa = .int .i64 at0 ∧ at0 ≤ s.size ∧ begF s.data.toList (n - k) at0 = none) (fun _ kk => n + 1 - (intOf kk).toNat)
  case atStart => exact ⟨0, 0, by omega, rfl, rfl, by omega, HB.out⟩
  case round =>
    obtain ⟨k, at0, hk, rfl, rfl, hat, hbk⟩ := hrel
    by_cases hlt : k < n
    · obtain ⟨m, hm⟩ : ∃ m, n - k = m + 1 := ⟨n - k - 1, by omega⟩
      rw [hm, begF] at hbk
      have hd : (s.extract at0 s.size).data.toList = s.data.toList.drop at0 := extract_end s at0
      rcases idx_cases (s.data.toList.drop at0) with ⟨h1, h2⟩ | ⟨i, h1, h2, h3, h4⟩
      · have hix := Try.strings_Index_one (s.extract at0 s.size) 10 w
        have hq : idxInt (s.data.toList.drop at0) = -1 := by rw [idxInt, h1]
        rw [idxInt_eq, hd, hq] at hix
        have HI := Lib.hid hix
        clear hix hbk hm hd h1 h2 hq
        go_wp2_with (go_at_call 31; refine HI.out.mono ?_; rintro e w' ⟨rfl, rfl⟩)
        go_ret2
        exact ⟨rfl, rfl⟩
      · rw [h1] at hbk
        simp only at hbk
        rw [List.length_drop, size_list] at h3
        have hix := Try.strings_Index_one (s.extract at0 s.size) 10 w
        have hq : idxInt (s.data.toList.drop at0) = i := by rw [idxInt, h1]
        rw [idxInt_eq, hd, hq] at hix
        have HI := Lib.hid hix
        have HK := Lib.hid hbk
        have HM := Lib.hid hm
        clear hix hbk hm hd h1 h2 h4 hq
        go_wp2_with (go_at_call 31; refine HI.out.mono ?_; rintro e w' ⟨rfl, rfl⟩)
        go_round
        case rel => exact ⟨k + 1, at0 + i + 1, by omega, by go_num, by go_num, by omega, by rw [show n - (k + 1) = m by have := HM.out; omega]; exact HK.out⟩
        case measure => simp [intOf]; omega
    · have hkn : k = n := by omega
      subst hkn
      rw [Nat.sub_self, begF] at hbk
      cases hbk

set_option maxHeartbeats 1000000 in
set_option maxRecDepth 100000 in
theorem begins_neg (s : ByteArray) (n : Int) (w : World) (hn : n < 1) :
    Calls Try.prog 26 #[.string s, .int .i64 n] w fun e w' => e = .returned (.tuple #[.int .i64 0, .bool false]) ∧ w = w' := by
  have hd1 : decide ((1 : Int) ≤ n) = false := decide_eq_false (by omega)
  go_enter Try.func26, Try.ntmps26
  go_wp2
  go_loop [6, 7] (fun aa kk => aa = .int .i64 0 ∧ kk = .int .i64 1) (fun _ _ => 0)
  case atStart => exact ⟨rfl, rfl⟩
  case round =>
    obtain ⟨rfl, rfl⟩ := hrel
    go_wp2
    go_ret2
    exact ⟨rfl, rfl⟩

/-- What spot.Line gives at a line that there is. -/
def LineOk (l : List UInt8) (w : World) (e : Ending) (w' : World) : Prop :=
  (∃ t : ByteArray, e = .returned (.tuple #[.string t, .int .i64 0]) ∧ t.data.toList = l) ∧ Below w.heap.size w w'

set_option maxHeartbeats 1000000 in
set_option maxRecDepth 100000 in
theorem line_some (s : ByteArray) (n : Nat) (l : List UInt8) (w : World) (hs : s.size ≤ 1099511627776) (hn : n < 9223372036854775807) (hl : (lines s.data.toList)[n]? = some l) :
    Calls Try.prog 17 #[.string s, .int .i64 (n + 1)] w (LineOk l w) := by
  have hla := line_at s.data.toList n
  cases hb : begF s.data.toList n 0 with
  | none => rw [hb, hl] at hla; cases hla
  | some a =>
    rw [hb, hl] at hla
    injection hla with hla
    obtain ⟨_, hal⟩ := begF_le _ _ _ _ hb (Nat.zero_le _)
    rw [size_list] at hal
    have HL := Lib.hid hla
    have hz : (s.extract a s.size).size ≤ 1099511627776 := by rw [ByteArray.size_extract]; omega
    clear hla hl
    go_enter Try.func17, Try.ntmps17
    go_wp2_with (first | (go_at_call 26; refine (begins_some s n a _ hs hn hb).mono ?_; rintro e w1 ⟨rfl, rfl⟩) | (go_at_call 27; refine (cut1_any (s.extract a s.size) _ hz).mono ?_))
    rintro e w1 ⟨⟨x, y, f, rfl, ha⟩, m, rfl⟩
    go_wp2
    go_ret2
    exact ⟨⟨_, rfl, by rw [ha, extract_end]; exact HL.out⟩, below_drewN (Below.refl _ _) _⟩

set_option maxHeartbeats 1000000 in
set_option maxRecDepth 100000 in
theorem line_none (s : ByteArray) (n : Int) (w : World) (hs : s.size ≤ 1099511627776) (hn : n ≤ 9223372036854775807) (hl : n < 1 ∨ (lines s.data.toList).length < n) :
    Calls Try.prog 17 #[.string s, .int .i64 n] w fun e w' => e = .returned (.tuple #[.string ByteArray.empty, .int .i64 12]) ∧ w = w' := by
  have hb : Calls Try.prog 26 #[.string s, .int .i64 n] w fun e w' => e = .returned (.tuple #[.int .i64 0, .bool false]) ∧ w = w' := by
    by_cases h1 : n < 1
    · exact begins_neg s n w h1
    · obtain ⟨m, rfl⟩ : ∃ m : Nat, n = m + 1 := ⟨(n - 1).toNat, by omega⟩
      refine begins_none s m w hs (by omega) ?_
      have hla := line_at s.data.toList m
      rw [List.getElem?_eq_none (by omega)] at hla
      cases hb : begF s.data.toList m 0 with
      | none => rfl
      | some a => rw [hb] at hla; cases hla
  have HB := Lib.hid hb
  clear hb
  go_enter Try.func17, Try.ntmps17
  go_wp2_with (go_at_call 26; refine HB.out.mono ?_; rintro e w1 ⟨rfl, rfl⟩)
  go_ret2
  exact ⟨rfl, rfl⟩
end Go.Proofs.Ytofbhdpcpoclaaa
