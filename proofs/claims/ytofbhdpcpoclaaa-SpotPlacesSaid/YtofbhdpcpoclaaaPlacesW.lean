/- The walks of spot.At, spot.Place and the reference's At. -/
import Derived.Test.YtofbhdpcpoclaaaPlacesPlain
namespace Go.Proofs.Ytofbhdpcpoclaaa
open Go.RowKit

theorem ret_ints {a b c d : Int} (h : a = c) (h' : b = d) : Ending.returned (.tuple #[.int .i64 a, .int .i64 b]) = .returned (.tuple #[.int .i64 c, .int .i64 d]) := by rw [h, h']
theorem ten_zero : ((ByteArray.mk #[10])[0]'(by decide)).toNat = 10 := by decide

set_option maxHeartbeats 1000000 in
set_option maxRecDepth 100000 in
theorem at_some (s : ByteArray) (n : Nat) (w : World) (hs : s.size ≤ 1099511627776) (hn : n ≤ s.size) :
    Calls Try.prog 18 #[.string s, .int .i64 n] w fun e w' => e = .returned (.tuple #[.agg #[.int .i64 (atF s.data.toList n).1, .int .i64 (atF s.data.toList n).2], .int .i64 0]) ∧ Below w.heap.size w w' := by
  obtain ⟨a1, a2, a3, a4, a5, a6, a7⟩ := at_inv s.data.toList n (by rw [size_list]; exact hn)
  have hby := at_byte s n hn
  have hcn : (Lib.countByte (s.extract 0 n).data.toList 10 : Int) = (atF s.data.toList n).1 - 1 := by
    rw [extract_list, List.drop_zero, Lib.countByte, a7]
    omega
  have hz : (s.extract 0 n).size < 4611686018427387904 := by rw [ByteArray.size_extract]; omega
  have hC := fun w => Try.strings_Count_one (s.extract 0 n) 10 w
  have hI := fun w => Try.strings_LastIndex_one (s.extract 0 n) ⟨#[10]⟩ rfl hz w
  simp only [ten_zero] at hI
  have hll : Lib.lastIndexByte (s.extract 0 n) ((10 : Nat) : Int) = (n : Int) - (atF s.data.toList n).2 := by
    have : Lib.lastIndexByte (s.extract 0 n) 10 = (n : Int) - (atF s.data.toList n).2 := by omega
    exact this
  simp only [hcn] at hC
  simp only [hll] at hI
  generalize (atF s.data.toList n).1 = L at hC a1 a4
  generalize (atF s.data.toList n).2 = B at hI a2 a3
  have HC := Lib.hid hC
  have HI := Lib.hid hI
  have d1 : decide ((n : Int) < 0) = false := decide_eq_false (by omega)
  have d2 : decide ((s.size : Int) < (n : Int)) = false := decide_eq_false (by omega)
  have i1 : (0 : Int) ≤ n := by omega
  have i2 : (n : Int) ≤ s.size := by omega
  clear hC hI hby hcn hll a5 a6 a7 hz
  go_enter Try.func18, Try.ntmps18
  go_wp2_with (first | (go_at_call 28; refine (HC.out _).mono ?_; rintro e w' ⟨rfl, rfl⟩) | (go_at_call 29; refine (HI.out _).mono ?_; rintro e w' ⟨rfl, rfl⟩))
  refine bodyPost_ret (v := .tuple #[.agg #[.int .i64 L, .int .i64 B], .int .i64 0]) ?_ rfl ⟨rfl, ?_⟩
  · simp [results, Try.results18, go_sem]
    omega
  · exact (Below.refl _ _).alloc (Nat.le_refl _) _

theorem at_none (s : ByteArray) (n : Int) (w : World) (hs : s.size ≤ 1099511627776) (hn : n < 0 ∨ s.size < n) :
    Calls Try.prog 18 #[.string s, .int .i64 n] w fun e w' => e = .returned (.tuple #[.agg #[.int .i64 0, .int .i64 0], .int .i64 12]) ∧ Below w.heap.size w w' := by
  by_cases h1 : n < 0
  · clear hn
    go_enter Try.func18, Try.ntmps18
    go_wp2
    refine bodyPost_ret (v := .tuple #[.agg #[.int .i64 0, .int .i64 0], .int .i64 12]) ?_ rfl ⟨rfl, ?_⟩
    · simp [results, Try.results18, go_sem]
    · exact (Below.refl _ _).alloc (Nat.le_refl _) _
  · have h2 : (s.size : Int) < n := by omega
    have h3 : decide (n < 0) = false := decide_eq_false h1
    clear hn
    go_enter Try.func18, Try.ntmps18
    go_wp2
    refine bodyPost_ret (v := .tuple #[.agg #[.int .i64 0, .int .i64 0], .int .i64 12]) ?_ rfl ⟨rfl, ?_⟩
    · simp [results, Try.results18, go_sem]
    · exact (Below.refl _ _).alloc (Nat.le_refl _) _

set_option maxHeartbeats 1000000 in
set_option maxRecDepth 100000 in
theorem refAt_any (s : ByteArray) (n : Nat) (w : World) (hs : s.size ≤ 1099511627776) (hn : n ≤ s.size) :
    Calls Try.prog 19 #[.string s, .int .i64 n] w fun e w' => e = .returned (.tuple #[.int .i64 (atF s.data.toList n).1, .int .i64 (atF s.data.toList n).2]) ∧ w = w' := by
  go_enter Try.func19, Try.ntmps19
  go_wp2
  go_loop [6, 7, 8] (fun li bb ii => ∃ (i L B : Nat), i ≤ n ∧ ii = .int .i64 i ∧ li = .int .i64 L ∧ bb = .int .i64 B ∧ L ≤ i + 1 ∧ B ≤ i + 1 ∧ atF s.data.toList i = (L, B)) (fun _ _ ii => n - (intOf ii).toNat)
  case atStart => exact ⟨0, 1, 1, by omega, rfl, rfl, rfl, by omega, by omega, rfl⟩
  case round =>
    obtain ⟨i, L, B, hi, rfl, rfl, rfl, hL, hB, hA⟩ := hrel
    have HA := Lib.hid hA
    clear hA
    by_cases hlt : i < n
    · have his : i < s.size := by omega
      go_wp2
      · have hc : (((s[i]'his).toNat : Int) == 10) = true := by assumption
        go_round
        case rel => exact ⟨i + 1, L + 1, 1, by omega, by go_num, by go_num, by go_num, by omega, by omega, by rw [atF, if_pos (byte_ten his hc), HA.out]⟩
        case measure => simp [intOf]; omega
      · have hc : (((s[i]'his).toNat : Int) == 10) = false := by assumption
        go_round
        case rel => exact ⟨i + 1, L, B + 1, by omega, by go_num, by go_num, by go_num, by omega, by omega, by rw [atF, if_neg (byte_not his hc), HA.out]⟩
        case measure => simp [intOf]; omega
    · have hin : i = n := by omega
      subst hin
      go_wp2
      go_ret2
      exact ⟨ret_ints (by rw [HA.out]) (by rw [HA.out]), rfl⟩

set_option maxHeartbeats 1000000 in
set_option maxRecDepth 100000 in
theorem place_some (s : ByteArray) (n : Nat) (w : World) (hs : s.size ≤ 1099511627776) (hn : n ≤ s.size) (L B : Nat) (hA : atF s.data.toList n = (L, B)) :
    Calls Try.prog 20 #[.string s, .agg #[.int .i64 L, .int .i64 B]] w fun e w' => e = .returned (.tuple #[.int .i64 n, .int .i64 0]) ∧ Below w.heap.size w w' := by
  obtain ⟨a1, a2, a3, a4, a5, a6, a7⟩ := at_inv s.data.toList n (by rw [size_list]; exact hn)
  have hat := fun w => at_some s n w hs hn
  rw [hA] at a1 a2 a3 a4 a5
  simp only [hA] at hat
  simp only at a1 a2 a3 a4 a5
  obtain ⟨m, rfl⟩ : ∃ m, L = m + 1 := ⟨L - 1, by omega⟩
  rw [Nat.add_sub_cancel] at a5
  have hb := fun w => begins_some s m _ w hs (by omega) a5
  have HB := Lib.hid hb
  have HT := Lib.hid hat
  have e1 : ((n + 1 - B : Nat) : Int) = (n : Int) + 1 - B := by omega
  have d1 : decide ((B : Int) < 1) = false := decide_eq_false (by omega)
  have d2 : decide ((s.size : Int) - ((n + 1 - B : Nat) : Int) < (B : Int) - 1) = false := decide_eq_false (by omega)
  have i1 : 1 ≤ (B : Int) := by omega
  have e2 : ((n + 1 - B : Nat) : Int) + ((B : Int) - 1) = (n : Int) := by omega
  have E2 := Lib.hid e2
  have hq : n + 1 - B ≤ s.size := by omega
  generalize n + 1 - B = a at HB e1 d2 hq E2
  clear hb hat a5 a6 a7 e1 e2 hA
  have i2 : (B : Int) - 1 ≤ (s.size : Int) - (a : Int) := by have := E2.out; omega
  go_enter Try.func20, Try.ntmps20
  go_wp2_with (first | (go_at_call 26; refine (HB.out _).mono ?_; rintro e w' ⟨rfl, rfl⟩))
  rw [E2.out]
  have nq := heap_alloc_new w (.cells #[.int .i64 ((m : Int) + 1), .int .i64 B] 54)
  have z0 : (w.alloc (.cells #[.int .i64 ((m : Int) + 1), .int .i64 B] 54)).cell? ⟨w.heap.size, 0, none⟩ = some (.int .i64 ((m : Int) + 1)) := by rw [Lib.cell_of_heap nq]; rfl
  have z1 : (w.alloc (.cells #[.int .i64 ((m : Int) + 1), .int .i64 B] 54)).cell? ⟨w.heap.size, 1, none⟩ = some (.int .i64 B) := by rw [Lib.cell_of_heap nq]; rfl
  have hb0 := (Below.refl w.heap.size w).alloc (Nat.le_refl _) (.cells #[.int .i64 ((m : Int) + 1), .int .i64 B] 54)
  generalize w.alloc (.cells #[.int .i64 ((m : Int) + 1), .int .i64 B] 54) = wq at z0 z1 hb0 ⊢
  have hzq := hb0.size
  clear nq
  refine (HT.out _).mono ?_
  rintro e w1 ⟨rfl, hb1⟩
  have x0 := cell_later hb1 z0
  have x1 := cell_later hb1 z1
  have y0 := cell_later ((Below.refl w1.heap.size w1).alloc (Nat.le_refl _) (.cells #[.int .i64 ((m : Int) + 1), .int .i64 B] 54)) x0
  have y1 := cell_later ((Below.refl w1.heap.size w1).alloc (Nat.le_refl _) (.cells #[.int .i64 ((m : Int) + 1), .int .i64 B] 54)) x1
  clear x0 x1
  go_wp2
  go_ret2
  exact ⟨rfl, (hb0.trans (hb1.mono hzq)).alloc (by have := hb1.size; omega) _⟩

set_option maxHeartbeats 1000000 in
set_option maxRecDepth 100000 in
theorem place_none (s : ByteArray) (L B : Int) (w : World) (hs : s.size ≤ 1099511627776) (hL : L ≤ 9223372036854775807) (hB0 : -9223372036854775808 ≤ B) (hB : B ≤ 9223372036854775807)
    (hno : ∀ n, n ≤ s.size → ¬ (((atF s.data.toList n).1 : Int) = L ∧ ((atF s.data.toList n).2 : Int) = B)) :
    Calls Try.prog 20 #[.string s, .agg #[.int .i64 L, .int .i64 B]] w fun e w' => e = .returned (.tuple #[.int .i64 0, .int .i64 12]) ∧ Below w.heap.size w w' := by
  have hb0 := (Below.refl w.heap.size w).alloc (Nat.le_refl _) (.cells #[.int .i64 L, .int .i64 B] 54)
  have hcase : (∀ w, Calls Try.prog 26 #[.string s, .int .i64 L] w fun e w' => e = .returned (.tuple #[.int .i64 0, .bool false]) ∧ w = w') ∨
      ∃ a : Nat, a ≤ s.size ∧ ∀ w, Calls Try.prog 26 #[.string s, .int .i64 L] w fun e w' => e = .returned (.tuple #[.int .i64 a, .bool true]) ∧ w = w' := by
    by_cases h1 : L < 1
    · exact Or.inl fun w => begins_neg s L w h1
    · obtain ⟨m, rfl⟩ : ∃ m : Nat, L = m + 1 := ⟨(L - 1).toNat, by omega⟩
      cases hb : begF s.data.toList m 0 with
      | none => exact Or.inl fun w => begins_none s m w hs (by omega) hb
      | some a =>
        obtain ⟨_, hal⟩ := begF_le _ _ _ _ hb (Nat.zero_le _)
        rw [size_list] at hal
        exact Or.inr ⟨a, hal, fun w => begins_some s m a w hs (by omega) hb⟩
  rcases hcase with hb | ⟨a, hal, hb⟩
  · have HB := Lib.hid hb
    clear hb hno
    go_enter Try.func20, Try.ntmps20
    go_wp2_with (first | (go_at_call 26; refine (HB.out _).mono ?_; rintro e w' ⟨rfl, rfl⟩))
    go_ret2
    exact ⟨rfl, hb0⟩
  have HB := Lib.hid hb
  clear hb
  by_cases h1 : B < 1
  · clear hno
    go_enter Try.func20, Try.ntmps20
    go_wp2_with (first | (go_at_call 26; refine (HB.out _).mono ?_; rintro e w' ⟨rfl, rfl⟩))
    go_ret2
    exact ⟨rfl, hb0⟩
  have h1' : 1 ≤ B := by omega
  have d1 : decide (B < 1) = false := decide_eq_false h1
  by_cases h2 : (s.size : Int) - (a : Int) < B - 1
  · clear hno
    go_enter Try.func20, Try.ntmps20
    go_wp2_with (first | (go_at_call 26; refine (HB.out _).mono ?_; rintro e w' ⟨rfl, rfl⟩))
    go_ret2
    exact ⟨rfl, hb0⟩
  have h2' : B - 1 ≤ (s.size : Int) - (a : Int) := by omega
  have d2 : decide ((s.size : Int) - (a : Int) < B - 1) = false := decide_eq_false h2
  obtain ⟨n, hn⟩ : ∃ n : Nat, (a : Int) + (B - 1) = n := ⟨((a : Int) + (B - 1)).toNat, by omega⟩
  have hns : n ≤ s.size := by omega
  have hne := hno n hns
  have hat := fun w => at_some s n w hs hns
  generalize (atF s.data.toList n).1 = L' at hat hne
  generalize (atF s.data.toList n).2 = B' at hat hne
  have HT := Lib.hid hat
  have HN := Lib.hid hn
  clear hat hno hn h1 h2
  go_enter Try.func20, Try.ntmps20
  go_wp2_with (first | (go_at_call 26; refine (HB.out _).mono ?_; rintro e w' ⟨rfl, rfl⟩))
  rw [HN.out]
  have nq := heap_alloc_new w (.cells #[.int .i64 L, .int .i64 B] 54)
  have z0 : (w.alloc (.cells #[.int .i64 L, .int .i64 B] 54)).cell? ⟨w.heap.size, 0, none⟩ = some (.int .i64 L) := by rw [Lib.cell_of_heap nq]; rfl
  have z1 : (w.alloc (.cells #[.int .i64 L, .int .i64 B] 54)).cell? ⟨w.heap.size, 1, none⟩ = some (.int .i64 B) := by rw [Lib.cell_of_heap nq]; rfl
  generalize w.alloc (.cells #[.int .i64 L, .int .i64 B] 54) = wq at z0 z1 hb0 ⊢
  have hzq := hb0.size
  clear nq
  refine (HT.out _).mono ?_
  rintro e w1 ⟨rfl, hb1⟩
  have x0 := cell_later hb1 z0
  have x1 := cell_later hb1 z1
  have y0 := cell_later ((Below.refl w1.heap.size w1).alloc (Nat.le_refl _) (.cells #[.int .i64 L', .int .i64 B'] 54)) x0
  have y1 := cell_later ((Below.refl w1.heap.size w1).alloc (Nat.le_refl _) (.cells #[.int .i64 L', .int .i64 B'] 54)) x1
  clear x0 x1
  have HNE := Lib.hid hne
  clear hne
  go_wp2
  · exact absurd ⟨by assumption, by assumption⟩ HNE.out
  all_goals
    go_ret2
    exact ⟨rfl, (hb0.trans (hb1.mono hzq)).alloc (by have := hb1.size; omega) _⟩
end Go.Proofs.Ytofbhdpcpoclaaa
