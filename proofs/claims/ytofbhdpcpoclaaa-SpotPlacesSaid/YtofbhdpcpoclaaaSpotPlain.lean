/- Plain functions on edits and spans: what the spot functions compute. No program, no condition. -/
import Derived.Test.YtofbhdpcpoclaaaBase
namespace Go.Proofs.Ytofbhdpcpoclaaa

abbrev Edit := Int × ByteArray
abbrev Span := Int × Int
def editCells (e : Edit) : List Value := [.int .i64 e.1, .string e.2]
def spanCells (p : Span) : List Value := [.int .i64 p.1, .int .i64 p.2]

/-- Are edits right for a text of n bytes, the last place and the size so far given? -/
def rightB (n : Int) : Int → Int → List Edit → Bool
  | _, size, [] => decide (size ≤ 65536)
  | last, size, e :: r => if e.1 < last then false else if n < e.1 then false else if e.2.toList.isEmpty = true then false
    else if 65536 < size + e.2.size then false else rightB n e.1 (size + e.2.size) r

/-- Do spans rise, and are they in a text of n bytes? -/
def withinB (n : Int) : Int → List Span → Bool
  | _, [] => true
  | last, p :: r => if p.1 < last then false else if p.2 ≤ p.1 then false else if n < p.2 then false else withinB n p.2 r

theorem withinB_cons (n a : Int) (p : Span) (r : List Span) : withinB n a (p :: r) = true ↔ a ≤ p.1 ∧ p.1 < p.2 ∧ p.2 ≤ n ∧ withinB n p.2 r = true := by
  rw [withinB]
  by_cases h1 : p.1 < a
  · rw [if_pos h1]; exact ⟨fun h => absurd h (by decide), fun h => by omega⟩
  rw [if_neg h1]
  by_cases h2 : p.2 ≤ p.1
  · rw [if_pos h2]; exact ⟨fun h => absurd h (by decide), fun h => by omega⟩
  rw [if_neg h2]
  by_cases h3 : n < p.2
  · rw [if_pos h3]; exact ⟨fun h => absurd h (by decide), fun h => by omega⟩
  rw [if_neg h3]
  exact ⟨fun h => ⟨by omega, by omega, by omega, h⟩, fun h => h.2.2.2⟩

theorem rightB_cons (n a c : Int) (e : Edit) (r : List Edit) : rightB n a c (e :: r) = true ↔ a ≤ e.1 ∧ e.1 ≤ n ∧ 0 < e.2.size ∧ c + e.2.size ≤ 65536 ∧ rightB n e.1 (c + e.2.size) r = true := by
  rw [rightB]
  by_cases h1 : e.1 < a
  · rw [if_pos h1]; exact ⟨fun h => absurd h (by decide), fun h => by omega⟩
  rw [if_neg h1]
  by_cases h2 : n < e.1
  · rw [if_pos h2]; exact ⟨fun h => absurd h (by decide), fun h => by omega⟩
  rw [if_neg h2, isEmpty_size]
  by_cases h3 : e.2.size = 0
  · rw [if_pos (by simp [h3])]; exact ⟨fun h => absurd h (by decide), fun h => by omega⟩
  rw [if_neg (by simp [h3])]
  by_cases h4 : 65536 < c + e.2.size
  · rw [if_pos h4]; exact ⟨fun h => absurd h (by decide), fun h => by omega⟩
  rw [if_neg h4]
  exact ⟨fun h => ⟨by omega, by omega, by omega, by omega, h⟩, fun h => h.2.2.2.2⟩
end Go.Proofs.Ytofbhdpcpoclaaa
