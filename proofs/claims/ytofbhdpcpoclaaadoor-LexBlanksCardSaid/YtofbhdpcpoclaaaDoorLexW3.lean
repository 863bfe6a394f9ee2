/- The walk of lex.number. -/
import Derived.Test.YtofbhdpcpoclaaaDoorLexW1
namespace Go.Proofs.YtofbhdpcpoclaaaDoor
open Go.RowKit

/-- A token as the program hands it back. -/
def tokV (s : ByteArray) (t : Nat × Nat × Nat) : Value := .tuple #[.int .i64 t.1, .string (s.extract 0 t.2.1), .int .i64 t.2.2]

theorem ret_tok {s : ByteArray} {t : Nat × Nat × Nat} {a b : Int} {x : ByteArray} (h1 : a = t.1) (h2 : x = s.extract 0 t.2.1) (h3 : b = t.2.2) : Ending.returned (.tuple #[.int .i64 a, .string x, .int .i64 b]) = .returned (tokV s t) := by
  rw [h1, h2, h3]; rfl

theorem ext_none (s : ByteArray) : (⟨#[]⟩ : ByteArray) = s.extract 0 0 := bytes_ext (by rw [extract_list]; rfl)
theorem ext_size (s : ByteArray) (k : Nat) (h : k ≤ s.size) : (s.extract 0 k).size = k := by rw [ByteArray.size_extract]; omega

theorem take_takeWhile (p : UInt8 → Bool) (T : List UInt8) : T.take (T.takeWhile p).length = T.takeWhile p := by
  obtain ⟨r, hr⟩ := List.takeWhile_prefix (p := p) (l := T)
  conv => lhs; arg 2; rw [← hr]
  simp

theorem run_le (p : UInt8 → Bool) (s : ByteArray) : runL p s ≤ s.size := by rw [Lib.size_eq]; exact takeWhile_le p _
theorem run_list (p : UInt8 → Bool) (s : ByteArray) : (s.extract 0 (runL p s)).data.toList = s.data.toList.takeWhile p := by
  rw [extract_list, List.drop_zero, runL, take_takeWhile]

set_option maxHeartbeats 1000000 in
set_option maxRecDepth 100000 in
theorem number_any (s : ByteArray) (w : World) (hs : s.size ≤ 1099511627776) :
    Calls Tryd.prog 23 #[.string s] w fun e w' => e = .returned (tokV s (numF s.data.toList)) ∧ w' = w := by
  have hr := run_le digitB s
  have hn := run_list digitB s
  have hz := ext_size s _ hr
  have HR := Lib.hid (run_digit s w hs)
  by_cases h60 : 60 < runL digitB s
  · have hq : numF s.data.toList = (0, 0, 21) := by rw [numF, if_pos (.inl h60)]
    have HQ := Lib.hid hq
    generalize hy : s.extract 0 (runL digitB s) = y at HR hz
    have hI : (60 : Int) < ↑y.size := by omega
    have hD : decide ((60 : Int) < ↑y.size) = true := decide_eq_true hI
    clear hq hn hz
    go_enter Tryd.func23, Tryd.ntmps23
    go_wp2_with (go_at_call 37; refine HR.out.mono ?_; rintro e w1 ⟨rfl, rfl⟩)
    go_ret3
    refine ⟨ret_tok (t := numF s.data.toList) ?_ ?_ ?_, rfl⟩ <;> rw [HQ.out]
    · rfl
    · exact ext_none s
    · rfl
  · by_cases h1 : 1 < runL digitB s
    · have h0 : 0 < (s.extract 0 (runL digitB s)).size := by omega
      generalize hy : s.extract 0 (runL digitB s) = y at HR hz hn h0
      have hb := byte_is h0
      rw [hn] at hb
      have hI : ¬ (60 : Int) < ↑y.size := by omega
      have hD : decide ((60 : Int) < ↑y.size) = false := decide_eq_false hI
      have hI1 : (1 : Int) < ↑y.size := by omega
      have hD1 : decide ((1 : Int) < ↑y.size) = true := decide_eq_true hI1
      by_cases hc : (y[0]'h0) = 48
      · have hq : numF s.data.toList = (0, 0, 21) := by rw [numF, if_pos (.inr ⟨h1, by rw [hb, hc]⟩)]
        have hE : (((y[0]'h0).toNat : Int) == 48) = true := by rw [hc]; rfl
        have HQ := Lib.hid hq
        clear hq hn hb hc hz
        go_enter Tryd.func23, Tryd.ntmps23
        go_wp2_with (go_at_call 37; refine HR.out.mono ?_; rintro e w1 ⟨rfl, rfl⟩)
        go_ret3
        refine ⟨ret_tok (t := numF s.data.toList) ?_ ?_ ?_, rfl⟩ <;> rw [HQ.out]
        · rfl
        · exact ext_none s
        · rfl
      · have hq : numF s.data.toList = (3, runL digitB s, 0) := by
          rw [numF, if_neg]
          · rfl
          · rintro (h | ⟨_, h⟩)
            · exact h60 h
            · rw [hb] at h; injection h with h; exact hc h
        have hE : (((y[0]'h0).toNat : Int) == 48) = false := by
          rw [← Bool.not_eq_true, beq_iff_eq]
          intro h
          exact hc (UInt8.toNat_inj.1 (by show _ = 48; omega))
        have HQ := Lib.hid hq
        have HY := Lib.hid hy
        clear hq hn hb hc hy hz
        go_enter Tryd.func23, Tryd.ntmps23
        go_wp2_with (go_at_call 37; refine HR.out.mono ?_; rintro e w1 ⟨rfl, rfl⟩)
        go_ret3
        refine ⟨ret_tok (t := numF s.data.toList) ?_ ?_ ?_, rfl⟩ <;> rw [HQ.out]
        · rfl
        · exact HY.out.symm
        · rfl
    · have hq : numF s.data.toList = (3, runL digitB s, 0) := by
        rw [numF, if_neg]
        · rfl
        · rintro (h | ⟨h, _⟩)
          · exact h60 h
          · exact h1 h
      generalize hy : s.extract 0 (runL digitB s) = y at HR hz
      have hI : ¬ (60 : Int) < ↑y.size := by omega
      have hD : decide ((60 : Int) < ↑y.size) = false := decide_eq_false hI
      have hI1 : ¬ (1 : Int) < ↑y.size := by omega
      have hD1 : decide ((1 : Int) < ↑y.size) = false := decide_eq_false hI1
      have HQ := Lib.hid hq
      have HY := Lib.hid hy
      clear hq hn hy hz
      go_enter Tryd.func23, Tryd.ntmps23
      go_wp2_with (go_at_call 37; refine HR.out.mono ?_; rintro e w1 ⟨rfl, rfl⟩)
      go_ret3
      refine ⟨ret_tok (t := numF s.data.toList) ?_ ?_ ?_, rfl⟩ <;> rw [HQ.out]
      · rfl
      · exact HY.out.symm
      · rfl
end Go.Proofs.YtofbhdpcpoclaaaDoor
