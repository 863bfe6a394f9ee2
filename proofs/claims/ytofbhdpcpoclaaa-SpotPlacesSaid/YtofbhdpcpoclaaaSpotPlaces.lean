/- SpotPlaces holds: at every text, place and spot the law returns true. No condition. -/
import Derived.Test.YtofbhdpcpoclaaaPlacesW
import Derived.Test.YtofbhdpcpoclaaaLaw
import Derived.Lib.SmallJoins
namespace Go.Proofs.Ytofbhdpcpoclaaa.spotPlaces
open Go.ChangeShapes Go.WideShapes Go.ChangeAt Go.RowKit
set_option linter.unusedVariables false

set_option maxHeartbeats 1000000 in
set_option maxRecDepth 100000 in
theorem wide (s : ByteArray) (n L B : Int) (w : World) (hs : s.size ≤ 9223372036854775807) (h3 : (300 : Int) < (s.size : Int)) :
    Calls Try.prog 7 #[.string s, .int .i64 n, .agg #[.int .i64 L, .int .i64 B]] w fun e w' => e = .returned (.bool true) ∧ Below w.heap.size w w' := by
  have hb0 := (Below.refl w.heap.size w).alloc (Nat.le_refl _) (.cells #[.int .i64 L, .int .i64 B] 54)
  go_enter Try.func7, Try.ntmps7
  go_wp2_with (go_at_call 8; refine (anchor_any _).mono ?_; rintro e w1 ⟨rfl, hb1⟩)
  all_goals (go_ret; exact ⟨rfl, hb0.trans (hb1.mono (by simp))⟩)

/-- The world after the first half: p's box stands. -/
def Half (w : World) (L B : Int) (w' : World) : Prop := w'.cell? ⟨w.heap.size, 0, none⟩ = some (.int .i64 L) ∧ w'.cell? ⟨w.heap.size, 1, none⟩ = some (.int .i64 B) ∧ Below w.heap.size w w' ∧ w.heap.size < w'.heap.size

/-- What Place gives at p, all in one. -/
def PlaceR (s : ByteArray) (L B : Int) : Prop :=
  (∃ n, n ≤ s.size ∧ ((atF s.data.toList n).1 : Int) = L ∧ ((atF s.data.toList n).2 : Int) = B)
theorem place_any (s : ByteArray) (L B : Int) (w : World) (hs : s.size ≤ 1099511627776) (hL : L ≤ 9223372036854775807) (hB0 : -9223372036854775808 ≤ B) (hB : B ≤ 9223372036854775807) :
    ∃ (n : Int) (f : Int), ((∃ k : Nat, n = k ∧ f = 0 ∧ k ≤ s.size ∧ ((atF s.data.toList k).1 : Int) = L ∧ ((atF s.data.toList k).2 : Int) = B) ∨ (n = 0 ∧ f = 12 ∧ ¬ PlaceR s L B)) ∧
      ∀ w, Calls Try.prog 20 #[.string s, .agg #[.int .i64 L, .int .i64 B]] w fun e w' => e = .returned (.tuple #[.int .i64 n, .int .i64 f]) ∧ Below w.heap.size w w' := by
  by_cases h : PlaceR s L B
  · obtain ⟨n, hn, h1, h2⟩ := h
    refine ⟨n, 0, Or.inl ⟨n, rfl, rfl, hn, h1, h2⟩, fun w => ?_⟩
    subst h1 h2
    exact place_some s n w hs hn _ _ rfl
  · exact ⟨0, 12, Or.inr ⟨rfl, rfl, h⟩, fun w => place_none s L B w hs hL hB0 hB (fun n hn hq => h ⟨n, hn, hq.1, hq.2⟩)⟩

set_option maxHeartbeats 2000000 in
set_option maxRecDepth 100000 in
theorem inside (s : ByteArray) (n : Nat) (L B : Int) (w : World) (h3 : (s.size : Int) ≤ 300) (hn : n ≤ s.size) (hL : L ≤ 9223372036854775807) (hB0 : -9223372036854775808 ≤ B) (hB : B ≤ 9223372036854775807) :
    Calls Try.prog 7 #[.string s, .int .i64 n, .agg #[.int .i64 L, .int .i64 B]] w fun e w' => e = .returned (.bool true) ∧ Below w.heap.size w w' := by
  have q1 : s.size ≤ 1099511627776 := by omega
  obtain ⟨r, f, hrf, hP⟩ := place_any s L B w q1 hL hB0 hB
  obtain ⟨a1, a2, a3, a4, _⟩ := at_inv s.data.toList n (by rw [size_list]; exact hn)
  have hat := fun w => at_some s n w q1 hn
  have hra := fun w => refAt_any s n w q1 hn
  have hpl := fun w => place_some s n w q1 hn (atF s.data.toList n).1 (atF s.data.toList n).2 rfl
  generalize (atF s.data.toList n).1 = L1 at hat hra hpl a1 a4
  generalize (atF s.data.toList n).2 = B1 at hat hra hpl a2 a3
  have HAT := Lib.hid hat
  have HRA := Lib.hid hra
  have HPL := Lib.hid hpl
  have HP := Lib.hid hP
  have HRF := Lib.hid hrf
  have d1 : decide ((n : Int) < 0) = false := decide_eq_false (by omega)
  have d2 : decide ((s.size : Int) < (n : Int)) = false := decide_eq_false (by omega)
  have i1 : (0 : Int) ≤ n := by omega
  have i2 : (n : Int) ≤ s.size := by omega
  clear hat hra hpl hP hrf
  have hb0 := (Below.refl w.heap.size w).alloc (Nat.le_refl _) (.cells #[.int .i64 L, .int .i64 B] 54)
  have nq := heap_alloc_new w (.cells #[.int .i64 L, .int .i64 B] 54)
  have z0 : (w.alloc (.cells #[.int .i64 L, .int .i64 B] 54)).cell? ⟨w.heap.size, 0, none⟩ = some (.int .i64 L) := by rw [Lib.cell_of_heap nq]; rfl
  have z1 : (w.alloc (.cells #[.int .i64 L, .int .i64 B] 54)).cell? ⟨w.heap.size, 1, none⟩ = some (.int .i64 B) := by rw [Lib.cell_of_heap nq]; rfl
  have hzq : (w.alloc (.cells #[.int .i64 L, .int .i64 B] 54)).heap.size = w.heap.size + 1 := by simp
  go_enter Try.func7, Try.ntmps7
  go_wp2_with fail
  generalize w.alloc (.cells #[.int .i64 L, .int .i64 B] 54) = wq at z0 z1 hb0 nq hzq ⊢
  clear nq
  go_wp2_with (go_at_call 8; refine (anchor_any _).mono ?_; rintro e w1 ⟨rfl, hb1⟩; have x0 := cell_later hb1 z0; have x1 := cell_later hb1 z1)
  refine (HAT.out _).mono ?_
  rintro e w2 ⟨rfl, hb2⟩
  have x0 := cell_later hb2 x0
  have x1 := cell_later hb2 x1
  have hbw2 : Below w.heap.size w w2 := (hb0.trans (hb1.mono (by omega))).trans (hb2.mono (by have := hb1.size; omega))
  have hz2 : w.heap.size < w2.heap.size := by have := hb1.size; have := hb2.size; omega
  have y0 := cell_later ((Below.refl w2.heap.size w2).alloc (Nat.le_refl _) (.cells #[.int .i64 L1, .int .i64 B1] 54)) x0
  have y1 := cell_later ((Below.refl w2.heap.size w2).alloc (Nat.le_refl _) (.cells #[.int .i64 L1, .int .i64 B1] 54)) x1
  have nq := heap_alloc_new w2 (.cells #[.int .i64 L1, .int .i64 B1] 54)
  have q0 : (w2.alloc (.cells #[.int .i64 L1, .int .i64 B1] 54)).cell? ⟨w2.heap.size, 0, none⟩ = some (.int .i64 L1) := by rw [Lib.cell_of_heap nq]; rfl
  have q1' : (w2.alloc (.cells #[.int .i64 L1, .int .i64 B1] 54)).cell? ⟨w2.heap.size, 1, none⟩ = some (.int .i64 B1) := by rw [Lib.cell_of_heap nq]; rfl
  have hb3 : Below w.heap.size w (w2.alloc (.cells #[.int .i64 L1, .int .i64 B1] 54)) := hbw2.alloc (by omega) _
  have hz3 : (w2.alloc (.cells #[.int .i64 L1, .int .i64 B1] 54)).heap.size = w2.heap.size + 1 := by simp
  clear z0 z1 x0 x1 hb1 hb2 hbw2 hb0 hzq
  go_wp2_with fail
  generalize w2.alloc (.cells #[.int .i64 L1, .int .i64 B1] 54) = w3 at y0 y1 q0 q1' hb3 hz3 ⊢
  clear nq
  go_wp2_with (first | (go_at_call 19; refine (HRA.out _).mono ?_; rintro e w' ⟨rfl, rfl⟩))
  refine (HPL.out _).mono ?_
  rintro e w4 ⟨rfl, hb4⟩
  have y0 := cell_later hb4 y0
  have y1 := cell_later hb4 y1
  have q0 := cell_later hb4 q0
  have q1' := cell_later hb4 q1'
  have hb04 : Below w.heap.size w w4 := hb3.trans (hb4.mono (by omega))
  have hz4 : w.heap.size < w4.heap.size := by have := hb4.size; omega
  clear hb3 hb4
  go_wp2_with (first | (go_at_call 20; refine (HP.out _).mono ?_))
  rintro e w5 ⟨rfl, hb5⟩
  have y0 := cell_later hb5 y0
  have y1 := cell_later hb5 y1
  have hb05 : Below w.heap.size w w5 := hb04.trans (hb5.mono (by omega))
  clear hb04 hb5 q0 q1'
  go_wp2
  go_loop [15] (fun ii => ∃ i : Nat, i ≤ s.size + 1 ∧ ii = .int .i64 i ∧ ∀ j : Nat, j < i → ¬ (((atF s.data.toList j).1 : Int) = L ∧ ((atF s.data.toList j).2 : Int) = B)) (fun ii => s.size + 1 - (intOf ii).toNat)
  case atStart => exact ⟨0, by omega, rfl, fun j hj => by omega⟩
  case round =>
    obtain ⟨i, hi, rfl, hnot⟩ := hrel
    have HN := Lib.hid hnot
    clear hnot
    by_cases hlt : i ≤ s.size
    · have hra := fun w => refAt_any s i w q1 hlt
      have hrf := HRF.out
      by_cases hm : ((atF s.data.toList i).1 : Int) = L ∧ ((atF s.data.toList i).2 : Int) = B
      · have hri : r = i ∧ f = 0 := by
          rcases hrf with ⟨k, rfl, rfl, hk, e1, e2⟩ | ⟨_, _, hno⟩
          · have h1 : (atF s.data.toList k).1 = (atF s.data.toList i).1 := by have := hm.1; omega
            have h2 : (atF s.data.toList k).2 = (atF s.data.toList i).2 := by have := hm.2; omega
            have := at_inj s.data.toList k i (by rw [size_list]; exact hk) (by rw [size_list]; exact hlt) (Prod.ext h1 h2)
            exact ⟨by omega, rfl⟩
          · exact absurd ⟨i, hlt, hm.1, hm.2⟩ hno
        obtain ⟨rfl, rfl⟩ := hri
        obtain ⟨rfl, rfl⟩ := hm
        generalize (atF s.data.toList i).1 = L2 at *
        generalize (atF s.data.toList i).2 = B2 at *
        have HR2 := Lib.hid hra
        clear hra hrf
        go_wp2_with (first | (go_at_call 19; refine (HR2.out _).mono ?_; rintro e w' ⟨rfl, rfl⟩))
        go_ret
        exact ⟨rfl, hb05⟩
      · have hst : ∀ j : Nat, j < i + 1 → ¬ (((atF s.data.toList j).1 : Int) = L ∧ ((atF s.data.toList j).2 : Int) = B) := by
          intro j hj
          rcases Nat.lt_or_ge j i with h | h
          · exact HN.out j h
          · rw [show j = i by omega]; exact hm
        have HST := Lib.hid hst
        clear hst hrf
        generalize (atF s.data.toList i).1 = L2 at hra hm
        generalize (atF s.data.toList i).2 = B2 at hra hm
        have HR2 := Lib.hid hra
        clear hra
        by_cases hm1 : (L2 : Int) = L
        · have hm2 : ¬ (B2 : Int) = B := fun q => hm ⟨hm1, q⟩
          have b1 : ((L2 : Int) == L) = true := beq_iff_eq.2 hm1
          have b2 : ((B2 : Int) == B) = false := beq_eq_false_iff_ne.2 hm2
          clear hm hm1 hm2
          go_wp2_with (first | (go_at_call 19; refine (HR2.out _).mono ?_; rintro e w' ⟨rfl, rfl⟩))
          go_round
          case rel => exact ⟨i + 1, by omega, by go_num, HST.out⟩
          case measure => simp [intOf]; omega
        · have b1 : ((L2 : Int) == L) = false := beq_eq_false_iff_ne.2 hm1
          clear hm hm1
          go_wp2_with (first | (go_at_call 19; refine (HR2.out _).mono ?_; rintro e w' ⟨rfl, rfl⟩))
          go_round
          case rel => exact ⟨i + 1, by omega, by go_num, HST.out⟩
          case measure => simp [intOf]; omega
    · have hend : r = 0 ∧ f = 12 := by
        rcases HRF.out with ⟨k, rfl, rfl, hk, e1, e2⟩ | ⟨e1, e2, _⟩
        · exact absurd ⟨e1, e2⟩ (HN.out k (by omega))
        · exact ⟨e1, e2⟩
      obtain ⟨rfl, rfl⟩ := hend
      go_wp2
      go_ret
      exact ⟨rfl, hb05⟩

set_option maxHeartbeats 2000000 in
set_option maxRecDepth 100000 in
theorem outside_neg (s : ByteArray) (n : Int) (L B : Int) (w : World) (h3 : (s.size : Int) ≤ 300) (hn : n < 0) (hL : L ≤ 9223372036854775807) (hB0 : -9223372036854775808 ≤ B) (hB : B ≤ 9223372036854775807) :
    Calls Try.prog 7 #[.string s, .int .i64 n, .agg #[.int .i64 L, .int .i64 B]] w fun e w' => e = .returned (.bool true) ∧ Below w.heap.size w w' := by
  have q1 : s.size ≤ 1099511627776 := by omega
  obtain ⟨r, f, hrf, hP⟩ := place_any s L B w q1 hL hB0 hB
  have hat := fun w => at_none s n w q1 (Or.inl hn)
  have HAT := Lib.hid hat
  have HP := Lib.hid hP
  have HRF := Lib.hid hrf
  clear hat hP hrf
  have hb0 := (Below.refl w.heap.size w).alloc (Nat.le_refl _) (.cells #[.int .i64 L, .int .i64 B] 54)
  have nq := heap_alloc_new w (.cells #[.int .i64 L, .int .i64 B] 54)
  have z0 : (w.alloc (.cells #[.int .i64 L, .int .i64 B] 54)).cell? ⟨w.heap.size, 0, none⟩ = some (.int .i64 L) := by rw [Lib.cell_of_heap nq]; rfl
  have z1 : (w.alloc (.cells #[.int .i64 L, .int .i64 B] 54)).cell? ⟨w.heap.size, 1, none⟩ = some (.int .i64 B) := by rw [Lib.cell_of_heap nq]; rfl
  have hzq : (w.alloc (.cells #[.int .i64 L, .int .i64 B] 54)).heap.size = w.heap.size + 1 := by simp
  go_enter Try.func7, Try.ntmps7
  go_wp2_with fail
  generalize w.alloc (.cells #[.int .i64 L, .int .i64 B] 54) = wq at z0 z1 hb0 nq hzq ⊢
  clear nq
  go_wp2_with (go_at_call 8; refine (anchor_any _).mono ?_; rintro e w1 ⟨rfl, hb1⟩; have x0 := cell_later hb1 z0; have x1 := cell_later hb1 z1)
  refine (HAT.out _).mono ?_
  rintro e w2 ⟨rfl, hb2⟩
  have x0 := cell_later hb2 x0
  have x1 := cell_later hb2 x1
  have hbw2 : Below w.heap.size w w2 := (hb0.trans (hb1.mono (by omega))).trans (hb2.mono (by have := hb1.size; omega))
  have hz2 : w.heap.size < w2.heap.size := by have := hb1.size; have := hb2.size; omega
  have y0 := cell_later ((Below.refl w2.heap.size w2).alloc (Nat.le_refl _) (.cells #[.int .i64 0, .int .i64 0] 54)) x0
  have y1 := cell_later ((Below.refl w2.heap.size w2).alloc (Nat.le_refl _) (.cells #[.int .i64 0, .int .i64 0] 54)) x1
  have nq := heap_alloc_new w2 (.cells #[.int .i64 0, .int .i64 0] 54)
  have q0 : (w2.alloc (.cells #[.int .i64 0, .int .i64 0] 54)).cell? ⟨w2.heap.size, 0, none⟩ = some (.int .i64 0) := by rw [Lib.cell_of_heap nq]; rfl
  have q1' : (w2.alloc (.cells #[.int .i64 0, .int .i64 0] 54)).cell? ⟨w2.heap.size, 1, none⟩ = some (.int .i64 0) := by rw [Lib.cell_of_heap nq]; rfl
  have hb3 : Below w.heap.size w (w2.alloc (.cells #[.int .i64 0, .int .i64 0] 54)) := hbw2.alloc (by omega) _
  have hz3 : (w2.alloc (.cells #[.int .i64 0, .int .i64 0] 54)).heap.size = w2.heap.size + 1 := by simp
  clear z0 z1 x0 x1 hb1 hb2 hbw2 hb0 hzq
  go_wp2_with fail
  generalize w2.alloc (.cells #[.int .i64 0, .int .i64 0] 54) = w3 at y0 y1 q0 q1' hb3 hz3 ⊢
  clear nq
  have hb04 := hb3
  have hz4 : w.heap.size < w3.heap.size := by omega
  clear hb3
  go_wp2_with (first | (go_at_call 20; refine (HP.out _).mono ?_))
  rintro e w5 ⟨rfl, hb5⟩
  have y0 := cell_later hb5 y0
  have y1 := cell_later hb5 y1
  have hb05 : Below w.heap.size w w5 := hb04.trans (hb5.mono (by omega))
  clear hb04 hb5 q0 q1'
  go_wp2
  go_loop [15] (fun ii => ∃ i : Nat, i ≤ s.size + 1 ∧ ii = .int .i64 i ∧ ∀ j : Nat, j < i → ¬ (((atF s.data.toList j).1 : Int) = L ∧ ((atF s.data.toList j).2 : Int) = B)) (fun ii => s.size + 1 - (intOf ii).toNat)
  case atStart => exact ⟨0, by omega, rfl, fun j hj => by omega⟩
  case round =>
    obtain ⟨i, hi, rfl, hnot⟩ := hrel
    have HN := Lib.hid hnot
    clear hnot
    by_cases hlt : i ≤ s.size
    · have hra := fun w => refAt_any s i w q1 hlt
      have hrf := HRF.out
      by_cases hm : ((atF s.data.toList i).1 : Int) = L ∧ ((atF s.data.toList i).2 : Int) = B
      · have hri : r = i ∧ f = 0 := by
          rcases hrf with ⟨k, rfl, rfl, hk, e1, e2⟩ | ⟨_, _, hno⟩
          · have h1 : (atF s.data.toList k).1 = (atF s.data.toList i).1 := by have := hm.1; omega
            have h2 : (atF s.data.toList k).2 = (atF s.data.toList i).2 := by have := hm.2; omega
            have := at_inj s.data.toList k i (by rw [size_list]; exact hk) (by rw [size_list]; exact hlt) (Prod.ext h1 h2)
            exact ⟨by omega, rfl⟩
          · exact absurd ⟨i, hlt, hm.1, hm.2⟩ hno
        obtain ⟨rfl, rfl⟩ := hri
        obtain ⟨rfl, rfl⟩ := hm
        generalize (atF s.data.toList i).1 = L2 at *
        generalize (atF s.data.toList i).2 = B2 at *
        have HR2 := Lib.hid hra
        clear hra hrf
        go_wp2_with (first | (go_at_call 19; refine (HR2.out _).mono ?_; rintro e w' ⟨rfl, rfl⟩))
        go_ret
        exact ⟨rfl, hb05⟩
      · have hst : ∀ j : Nat, j < i + 1 → ¬ (((atF s.data.toList j).1 : Int) = L ∧ ((atF s.data.toList j).2 : Int) = B) := by
          intro j hj
          rcases Nat.lt_or_ge j i with h | h
          · exact HN.out j h
          · rw [show j = i by omega]; exact hm
        have HST := Lib.hid hst
        clear hst hrf
        generalize (atF s.data.toList i).1 = L2 at hra hm
        generalize (atF s.data.toList i).2 = B2 at hra hm
        have HR2 := Lib.hid hra
        clear hra
        by_cases hm1 : (L2 : Int) = L
        · have hm2 : ¬ (B2 : Int) = B := fun q => hm ⟨hm1, q⟩
          have b1 : ((L2 : Int) == L) = true := beq_iff_eq.2 hm1
          have b2 : ((B2 : Int) == B) = false := beq_eq_false_iff_ne.2 hm2
          clear hm hm1 hm2
          go_wp2_with (first | (go_at_call 19; refine (HR2.out _).mono ?_; rintro e w' ⟨rfl, rfl⟩))
          go_round
          case rel => exact ⟨i + 1, by omega, by go_num, HST.out⟩
          case measure => simp [intOf]; omega
        · have b1 : ((L2 : Int) == L) = false := beq_eq_false_iff_ne.2 hm1
          clear hm hm1
          go_wp2_with (first | (go_at_call 19; refine (HR2.out _).mono ?_; rintro e w' ⟨rfl, rfl⟩))
          go_round
          case rel => exact ⟨i + 1, by omega, by go_num, HST.out⟩
          case measure => simp [intOf]; omega
    · have hend : r = 0 ∧ f = 12 := by
        rcases HRF.out with ⟨k, rfl, rfl, hk, e1, e2⟩ | ⟨e1, e2, _⟩
        · exact absurd ⟨e1, e2⟩ (HN.out k (by omega))
        · exact ⟨e1, e2⟩
      obtain ⟨rfl, rfl⟩ := hend
      go_wp2
      go_ret
      exact ⟨rfl, hb05⟩
set_option maxHeartbeats 2000000 in
set_option maxRecDepth 100000 in
theorem outside_big (s : ByteArray) (n : Int) (L B : Int) (w : World) (h3 : (s.size : Int) ≤ 300) (hn0 : 0 ≤ n) (hn : (s.size : Int) < n) (hL : L ≤ 9223372036854775807) (hB0 : -9223372036854775808 ≤ B) (hB : B ≤ 9223372036854775807) :
    Calls Try.prog 7 #[.string s, .int .i64 n, .agg #[.int .i64 L, .int .i64 B]] w fun e w' => e = .returned (.bool true) ∧ Below w.heap.size w w' := by
  have q1 : s.size ≤ 1099511627776 := by omega
  obtain ⟨r, f, hrf, hP⟩ := place_any s L B w q1 hL hB0 hB
  have hat := fun w => at_none s n w q1 (Or.inr hn)
  have HAT := Lib.hid hat
  have HP := Lib.hid hP
  have HRF := Lib.hid hrf
  clear hat hP hrf
  have hb0 := (Below.refl w.heap.size w).alloc (Nat.le_refl _) (.cells #[.int .i64 L, .int .i64 B] 54)
  have nq := heap_alloc_new w (.cells #[.int .i64 L, .int .i64 B] 54)
  have z0 : (w.alloc (.cells #[.int .i64 L, .int .i64 B] 54)).cell? ⟨w.heap.size, 0, none⟩ = some (.int .i64 L) := by rw [Lib.cell_of_heap nq]; rfl
  have z1 : (w.alloc (.cells #[.int .i64 L, .int .i64 B] 54)).cell? ⟨w.heap.size, 1, none⟩ = some (.int .i64 B) := by rw [Lib.cell_of_heap nq]; rfl
  have hzq : (w.alloc (.cells #[.int .i64 L, .int .i64 B] 54)).heap.size = w.heap.size + 1 := by simp
  have d1 : decide (n < 0) = false := decide_eq_false (by omega)
  go_enter Try.func7, Try.ntmps7
  go_wp2_with fail
  generalize w.alloc (.cells #[.int .i64 L, .int .i64 B] 54) = wq at z0 z1 hb0 nq hzq ⊢
  clear nq
  go_wp2_with (go_at_call 8; refine (anchor_any _).mono ?_; rintro e w1 ⟨rfl, hb1⟩; have x0 := cell_later hb1 z0; have x1 := cell_later hb1 z1)
  refine (HAT.out _).mono ?_
  rintro e w2 ⟨rfl, hb2⟩
  have x0 := cell_later hb2 x0
  have x1 := cell_later hb2 x1
  have hbw2 : Below w.heap.size w w2 := (hb0.trans (hb1.mono (by omega))).trans (hb2.mono (by have := hb1.size; omega))
  have hz2 : w.heap.size < w2.heap.size := by have := hb1.size; have := hb2.size; omega
  have y0 := cell_later ((Below.refl w2.heap.size w2).alloc (Nat.le_refl _) (.cells #[.int .i64 0, .int .i64 0] 54)) x0
  have y1 := cell_later ((Below.refl w2.heap.size w2).alloc (Nat.le_refl _) (.cells #[.int .i64 0, .int .i64 0] 54)) x1
  have nq := heap_alloc_new w2 (.cells #[.int .i64 0, .int .i64 0] 54)
  have q0 : (w2.alloc (.cells #[.int .i64 0, .int .i64 0] 54)).cell? ⟨w2.heap.size, 0, none⟩ = some (.int .i64 0) := by rw [Lib.cell_of_heap nq]; rfl
  have q1' : (w2.alloc (.cells #[.int .i64 0, .int .i64 0] 54)).cell? ⟨w2.heap.size, 1, none⟩ = some (.int .i64 0) := by rw [Lib.cell_of_heap nq]; rfl
  have hb3 : Below w.heap.size w (w2.alloc (.cells #[.int .i64 0, .int .i64 0] 54)) := hbw2.alloc (by omega) _
  have hz3 : (w2.alloc (.cells #[.int .i64 0, .int .i64 0] 54)).heap.size = w2.heap.size + 1 := by simp
  clear z0 z1 x0 x1 hb1 hb2 hbw2 hb0 hzq
  go_wp2_with fail
  generalize w2.alloc (.cells #[.int .i64 0, .int .i64 0] 54) = w3 at y0 y1 q0 q1' hb3 hz3 ⊢
  clear nq
  have hb04 := hb3
  have hz4 : w.heap.size < w3.heap.size := by omega
  clear hb3
  go_wp2_with (first | (go_at_call 20; refine (HP.out _).mono ?_))
  rintro e w5 ⟨rfl, hb5⟩
  have y0 := cell_later hb5 y0
  have y1 := cell_later hb5 y1
  have hb05 : Below w.heap.size w w5 := hb04.trans (hb5.mono (by omega))
  clear hb04 hb5 q0 q1'
  go_wp2
  go_loop [15] (fun ii => ∃ i : Nat, i ≤ s.size + 1 ∧ ii = .int .i64 i ∧ ∀ j : Nat, j < i → ¬ (((atF s.data.toList j).1 : Int) = L ∧ ((atF s.data.toList j).2 : Int) = B)) (fun ii => s.size + 1 - (intOf ii).toNat)
  case atStart => exact ⟨0, by omega, rfl, fun j hj => by omega⟩
  case round =>
    obtain ⟨i, hi, rfl, hnot⟩ := hrel
    have HN := Lib.hid hnot
    clear hnot
    by_cases hlt : i ≤ s.size
    · have hra := fun w => refAt_any s i w q1 hlt
      have hrf := HRF.out
      by_cases hm : ((atF s.data.toList i).1 : Int) = L ∧ ((atF s.data.toList i).2 : Int) = B
      · have hri : r = i ∧ f = 0 := by
          rcases hrf with ⟨k, rfl, rfl, hk, e1, e2⟩ | ⟨_, _, hno⟩
          · have h1 : (atF s.data.toList k).1 = (atF s.data.toList i).1 := by have := hm.1; omega
            have h2 : (atF s.data.toList k).2 = (atF s.data.toList i).2 := by have := hm.2; omega
            have := at_inj s.data.toList k i (by rw [size_list]; exact hk) (by rw [size_list]; exact hlt) (Prod.ext h1 h2)
            exact ⟨by omega, rfl⟩
          · exact absurd ⟨i, hlt, hm.1, hm.2⟩ hno
        obtain ⟨rfl, rfl⟩ := hri
        obtain ⟨rfl, rfl⟩ := hm
        generalize (atF s.data.toList i).1 = L2 at *
        generalize (atF s.data.toList i).2 = B2 at *
        have HR2 := Lib.hid hra
        clear hra hrf
        go_wp2_with (first | (go_at_call 19; refine (HR2.out _).mono ?_; rintro e w' ⟨rfl, rfl⟩))
        go_ret
        exact ⟨rfl, hb05⟩
      · have hst : ∀ j : Nat, j < i + 1 → ¬ (((atF s.data.toList j).1 : Int) = L ∧ ((atF s.data.toList j).2 : Int) = B) := by
          intro j hj
          rcases Nat.lt_or_ge j i with h | h
          · exact HN.out j h
          · rw [show j = i by omega]; exact hm
        have HST := Lib.hid hst
        clear hst hrf
        generalize (atF s.data.toList i).1 = L2 at hra hm
        generalize (atF s.data.toList i).2 = B2 at hra hm
        have HR2 := Lib.hid hra
        clear hra
        by_cases hm1 : (L2 : Int) = L
        · have hm2 : ¬ (B2 : Int) = B := fun q => hm ⟨hm1, q⟩
          have b1 : ((L2 : Int) == L) = true := beq_iff_eq.2 hm1
          have b2 : ((B2 : Int) == B) = false := beq_eq_false_iff_ne.2 hm2
          clear hm hm1 hm2
          go_wp2_with (first | (go_at_call 19; refine (HR2.out _).mono ?_; rintro e w' ⟨rfl, rfl⟩))
          go_round
          case rel => exact ⟨i + 1, by omega, by go_num, HST.out⟩
          case measure => simp [intOf]; omega
        · have b1 : ((L2 : Int) == L) = false := beq_eq_false_iff_ne.2 hm1
          clear hm hm1
          go_wp2_with (first | (go_at_call 19; refine (HR2.out _).mono ?_; rintro e w' ⟨rfl, rfl⟩))
          go_round
          case rel => exact ⟨i + 1, by omega, by go_num, HST.out⟩
          case measure => simp [intOf]; omega
    · have hend : r = 0 ∧ f = 12 := by
        rcases HRF.out with ⟨k, rfl, rfl, hk, e1, e2⟩ | ⟨e1, e2, _⟩
        · exact absurd ⟨e1, e2⟩ (HN.out k (by omega))
        · exact ⟨e1, e2⟩
      obtain ⟨rfl, rfl⟩ := hend
      go_wp2
      go_ret
      exact ⟨rfl, hb05⟩
end Go.Proofs.Ytofbhdpcpoclaaa.spotPlaces
