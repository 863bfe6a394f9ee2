/- What lexing gives of words, numbers and blanks of whatever length. No program, no condition. -/
import Derived.Test.YtofbhdpcpoclaaaDoorLexFacts
namespace Go.Proofs.YtofbhdpcpoclaaaDoor

def faultOf : Except (Nat × Nat) (List Tok) → Nat × Nat
  | .error e => e
  | .ok _ => (0, 0)
def countOf : Except (Nat × Nat) (List Tok) → Nat
  | .error _ => 0
  | .ok l => l.length

theorem lexF_nil (m p : Nat) : ∃ t, lexF (m + 1) [] p = .ok [t] := ⟨⟨5, [], [], p⟩, by simp [lexF, leadF, tokF]⟩

/-- One token that is all that is left, behind a lead. -/
theorem lexF_last (m : Nat) (T : List UInt8) (p k : Nat) (hk : leadF false T = k) (kd : Nat) (ht : tokF (T.drop k) = (kd, (T.drop k).length, 0)) (h5 : kd ≠ 5) : ∃ l, lexF (m + 2) T p = .ok l := by
  obtain ⟨t, h⟩ := lexF_nil m (p + k + (T.drop k).length)
  rw [lexF, hk, ht]
  simp only [ne_eq, not_true_eq_false, if_false, h5, List.drop_length]
  rw [h]
  exact ⟨_, rfl⟩

theorem lexF_bad (m : Nat) (T : List UInt8) (p k : Nat) (hk : leadF false T = k) (t : Nat × Nat × Nat) (ht : tokF (T.drop k) = t) (he : t.2.2 ≠ 0) : lexF (m + 1) T p = .error (t.2.2, p + k) := by
  rw [lexF, hk, ht, if_pos he]

theorem letter_facts {u : UInt8} (h : letterB u = true) : blankB u = false ∧ u ≠ 45 ∧ insideB u = true := by
  refine ⟨?_, ?_, by simp [insideB, h]⟩
  · rw [← Bool.not_eq_true]; intro q
    simp only [blankB, Bool.or_eq_true, beq_iff_eq] at q
    rcases q with ((rfl | rfl) | rfl) | rfl <;> exact absurd h (by decide)
  · rintro rfl; exact absurd h (by decide)

theorem digit_facts {u : UInt8} (h : digitB u = true) : blankB u = false ∧ u ≠ 45 ∧ letterB u = false := by
  refine ⟨?_, ?_, ?_⟩
  · rw [← Bool.not_eq_true]; intro q
    simp only [blankB, Bool.or_eq_true, beq_iff_eq] at q
    rcases q with ((rfl | rfl) | rfl) | rfl <;> exact absurd h (by decide)
  · rintro rfl; exact absurd h (by decide)
  · rw [← Bool.not_eq_true]; intro q
    simp only [letterB, digitB, Bool.or_eq_true, Bool.and_eq_true, decide_eq_true_eq, UInt8.le_iff_toNat_le] at q h
    have e1 : (57 : UInt8).toNat = 57 := rfl
    have e2 : (97 : UInt8).toNat = 97 := rfl
    have e3 : (65 : UInt8).toNat = 65 := rfl
    omega

theorem lead_none {c : UInt8} {r : List UInt8} (hb : blankB c = false) (hm : c ≠ 45) : leadF false (c :: r) = 0 := by
  rw [leadF, if_neg (by rw [hb]; decide), if_neg (fun q => hm q.1)]

theorem take_all {p : UInt8 → Bool} {u : UInt8} (h : p u = true) (n : Nat) : (List.replicate n u).takeWhile p = List.replicate n u := by
  induction n with
  | zero => rfl
  | succ n ih => rw [List.replicate_succ, List.takeWhile_cons_of_pos h, ih]

theorem tok_word {u : UInt8} (h : letterB u = true) (n : Nat) (hn : 1 ≤ n) : (40 < n → tokF (List.replicate n u) = (0, 0, 20)) ∧ (n ≤ 40 → ∃ kd, kd ≠ 5 ∧ tokF (List.replicate n u) = (kd, n, 0)) := by
  obtain ⟨m, rfl⟩ : ∃ m, n = m + 1 := ⟨n - 1, by omega⟩
  have hq : tokF (List.replicate (m + 1) u) = wordF (List.replicate (m + 1) u) := by rw [List.replicate_succ, tokF, if_pos h]
  have hw := take_all (letter_facts h).2.2 (m + 1)
  rw [hq]
  simp only [wordF, hw, List.length_replicate]
  refine ⟨fun h40 => by rw [if_pos h40], fun h40 => ?_⟩
  rw [if_neg (by omega)]
  split
  · exact ⟨2, by decide, rfl⟩
  · exact ⟨1, by decide, rfl⟩

theorem tok_num {u : UInt8} (h : digitB u = true) (h0 : u ≠ 48) (n : Nat) (hn : 1 ≤ n) : (60 < n → tokF (List.replicate n u) = (0, 0, 21)) ∧ (n ≤ 60 → tokF (List.replicate n u) = (3, n, 0)) := by
  obtain ⟨m, rfl⟩ : ∃ m, n = m + 1 := ⟨n - 1, by omega⟩
  have hq : tokF (List.replicate (m + 1) u) = numF (List.replicate (m + 1) u) := by rw [List.replicate_succ, tokF, if_neg (by rw [(digit_facts h).2.2]; decide), if_pos h]
  have hw := take_all h (m + 1)
  rw [hq]
  simp only [numF, hw, List.length_replicate]
  refine ⟨fun h60 => by rw [if_pos (.inl h60)], fun h60 => ?_⟩
  rw [if_neg]
  rintro (h1 | ⟨_, h2⟩)
  · omega
  · rw [List.replicate_succ] at h2
    simp at h2
    exact h0 h2

theorem drop_rep (n : Nat) (u : UInt8) (c : UInt8) : (c :: List.replicate n u).drop 1 = List.replicate n u := rfl

/-- " " and a word. -/
theorem lex_word {u : UInt8} (h : letterB u = true) (n : Nat) (hn : 1 ≤ n) (hx : n ≤ 100) : faultOf (lexAll (32 :: List.replicate n u)) = if n ≤ 40 then (0, 0) else (20, 1) := by
  obtain ⟨m, rfl⟩ : ∃ m, n = m + 1 := ⟨n - 1, by omega⟩
  have hk : leadF false (32 :: List.replicate (m + 1) u) = 1 := by
    have := lead_none (r := List.replicate m u) (letter_facts h).1 (letter_facts h).2.1
    rw [← List.replicate_succ] at this
    rw [leadF, if_pos (by decide), this]
  have hl : (32 :: List.replicate (m + 1) u).length = m + 2 := by simp
  rw [lexAll, if_neg (by rw [hl]; omega), hl]
  obtain ⟨h1, h2⟩ := tok_word h (m + 1) hn
  by_cases hc : m + 1 ≤ 40
  · obtain ⟨kd, h5, ht⟩ := h2 hc
    obtain ⟨l, e⟩ := lexF_last (m + 1) (32 :: List.replicate (m + 1) u) 0 1 hk kd (by rw [drop_rep, ht, List.length_replicate]) h5
    rw [e, if_pos hc]
    rfl
  · have := lexF_bad (m + 2) (32 :: List.replicate (m + 1) u) 0 1 hk (0, 0, 20) (by rw [drop_rep]; exact h1 (by omega)) (by decide)
    rw [this, if_neg hc]
    rfl

theorem tok_open (r : List UInt8) : tokF (40 :: r) = (4, 1, 0) := by
  rw [tokF, if_neg (by decide), if_neg (by decide), symF]
  have : signF (40 :: r) = some [40] := by simp [signF, signL, twoL, oneL, List.find?, List.isPrefixOf]
  rw [this]
  rfl

/-- "(" and a number. -/
theorem lex_num {u : UInt8} (h : digitB u = true) (h0 : u ≠ 48) (n : Nat) (hn : 1 ≤ n) (hx : n ≤ 100) : faultOf (lexAll (40 :: List.replicate n u)) = if n ≤ 60 then (0, 0) else (21, 1) := by
  obtain ⟨m, rfl⟩ : ∃ m, n = m + 1 := ⟨n - 1, by omega⟩
  have hk0 : leadF false (40 :: List.replicate (m + 1) u) = 0 := lead_none (by decide) (by decide)
  have hk : leadF false (List.replicate (m + 1) u) = 0 := by rw [List.replicate_succ]; exact lead_none (digit_facts h).1 (digit_facts h).2.1
  have hl : (40 :: List.replicate (m + 1) u).length = m + 2 := by simp
  rw [lexAll, if_neg (by rw [hl]; omega), hl, lexF, hk0, List.drop_zero, tok_open]
  simp only [ne_eq, not_true_eq_false, if_false, drop_rep, show (4 : Nat) ≠ 5 by decide]
  obtain ⟨h1, h2⟩ := tok_num h h0 (m + 1) hn
  by_cases hc : m + 1 ≤ 60
  · obtain ⟨l, e⟩ := lexF_last m (List.replicate (m + 1) u) (0 + 0 + 1) 0 hk 3 (by rw [List.drop_zero, h2 hc, List.length_replicate]) (by decide)
    rw [e, if_pos hc]
    rfl
  · have := lexF_bad (m + 1) (List.replicate (m + 1) u) (0 + 0 + 1) 0 hk (0, 0, 21) (by rw [List.drop_zero]; exact h1 (by omega)) (by decide)
    rw [this, if_neg hc]
    rfl

/-- A nought and a number. -/
theorem lex_nought {u : UInt8} (h : digitB u = true) (n : Nat) (hn : 1 ≤ n) (hx : n ≤ 100) : faultOf (lexAll (48 :: List.replicate n u)) = (21, 0) := by
  have hk : leadF false (48 :: List.replicate n u) = 0 := lead_none (by decide) (by decide)
  have hl : (48 :: List.replicate n u).length = n + 1 := by simp
  have ht : tokF (48 :: List.replicate n u) = (0, 0, 21) := by
    rw [tokF, if_neg (by decide), if_pos (by decide)]
    have hw : (48 :: List.replicate n u).takeWhile digitB = 48 :: List.replicate n u := by rw [List.takeWhile_cons_of_pos (by decide), take_all h]
    simp only [numF, hw]
    rw [if_pos (.inr ⟨by simp; omega, rfl⟩)]
  rw [lexAll, if_neg (by rw [hl]; omega), hl]
  have := lexF_bad (n + 1) (48 :: List.replicate n u) 0 0 hk (0, 0, 21) (by rw [List.drop_zero]; exact ht) (by decide)
  rw [this]
  rfl

theorem lead_all : ∀ n : Nat, leadF false (List.replicate n 32) = n
  | 0 => rfl
  | n + 1 => by rw [List.replicate_succ, leadF, if_pos (by decide), lead_all n]; omega

/-- Blanks. -/
theorem lex_long (n : Nat) : faultOf (lexAll (List.replicate n 32)) = (if n ≤ 65536 then (0, 0) else (11, 0)) ∧ countOf (lexAll (List.replicate n 32)) = if n ≤ 65536 then 1 else 0 := by
  rw [lexAll, List.length_replicate]
  by_cases hc : n ≤ 65536
  · rw [if_neg (by omega), if_pos hc, if_pos hc, lexF, lead_all]
    have hd : (List.replicate n (32 : UInt8)).drop n = [] := by rw [List.drop_eq_nil_iff]; simp
    rw [hd]
    simp [tokF, faultOf, countOf]
  · rw [if_pos (by omega), if_neg hc, if_neg hc]
    exact ⟨rfl, rfl⟩
end Go.Proofs.YtofbhdpcpoclaaaDoor
