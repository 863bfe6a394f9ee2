/- Plain laws on lines of a text. No program, no condition. -/
import Derived.Test.YtofbhdpcpoclaaaSpotLaws
namespace Go.Proofs.Ytofbhdpcpoclaaa

/-- A text's lines: it is cut at each byte 10. -/
def lines : List UInt8 → List (List UInt8)
  | [] => [[]]
  | c :: r => if c = 10 then [] :: lines r else match lines r with
    | [] => [[c]]
    | h :: t => (c :: h) :: t

theorem lines_ne (S : List UInt8) : lines S ≠ [] := by
  cases S with
  | nil => simp [lines]
  | cons c r =>
    rw [lines]
    split
    · simp
    · split <;> simp

theorem lines_none : ∀ (T : List UInt8), (∀ j : Nat, T[j]? ≠ some 10) → lines T = [T]
  | [], _ => rfl
  | c :: r, h => by
    have h0 : c ≠ 10 := fun e => h 0 (by simp [e])
    rw [lines, if_neg h0, lines_none r (fun j => by have := h (j + 1); simpa using this)]

theorem lines_cut : ∀ (m : Nat) (T : List UInt8), T[m]? = some 10 → (∀ j : Nat, j < m → T[j]? ≠ some 10) → lines T = T.take m :: lines (T.drop (m + 1))
  | _, [], h, _ => by simp at h
  | 0, c :: r, h, _ => by
    have h0 : c = 10 := by simpa using h
    rw [lines, if_pos h0]
    rfl
  | m + 1, c :: r, h, hj => by
    have h0 : c ≠ 10 := fun e => hj 0 (by omega) (by simp [e])
    have ih := lines_cut m r (by simpa using h) (fun j hjm => by have := hj (j + 1) (by omega); simpa using this)
    rw [lines, if_neg h0, ih]
    rfl

/-- Where the n-th line behind a place begins. -/
def begF (S : List UInt8) : Nat → Nat → Option Nat
  | 0, at0 => some at0
  | n + 1, at0 => match (S.drop at0).idxOf? 10 with
    | none => none
    | some i => begF S n (at0 + i + 1)

theorem idx_some {T : List UInt8} {i : Nat} (h : T[i]? = some 10) (hj : ∀ j : Nat, j < i → T[j]? ≠ some 10) : T.idxOf? 10 = some i := by
  rw [List.idxOf?, List.findIdx?_eq_some_iff_getElem]
  obtain ⟨hi, e⟩ := List.getElem?_eq_some_iff.1 h
  refine ⟨hi, by simp [e], fun j hji => ?_⟩
  have := hj j hji
  rw [List.getElem?_eq_getElem (by omega)] at this
  simpa using this

theorem idx_none {T : List UInt8} (hj : ∀ j : Nat, T[j]? ≠ some 10) : T.idxOf? 10 = none := by
  rw [List.idxOf?, List.findIdx?_eq_none_iff]
  intro x hx
  obtain ⟨j, hj', e⟩ := List.mem_iff_getElem.1 hx
  have := hj j
  rw [List.getElem?_eq_getElem hj', e] at this
  simpa using this

theorem idx_cases (T : List UInt8) : (T.idxOf? 10 = none ∧ ∀ j : Nat, T[j]? ≠ some 10) ∨ ∃ i, T.idxOf? 10 = some i ∧ T[i]? = some 10 ∧ i < T.length ∧ ∀ j : Nat, j < i → T[j]? ≠ some 10 := by
  rcases hq : Lib.indexByte T 10 with n | n
  · right
    obtain ⟨h1, h2⟩ := Lib.indexByte_some (o := n) hq
    exact ⟨n, idx_some h1 h2, h1, (List.getElem?_eq_some_iff.1 h1).1, h2⟩
  · left
    have := Lib.indexByte_ge T 10
    have h1 : Lib.indexByte T 10 = -1 := by rw [hq] at this ⊢; omega
    exact ⟨idx_none (Lib.indexByte_none h1), Lib.indexByte_none h1⟩

/-- What strings.Index gives at a text's first byte 10. -/
def idxInt (T : List UInt8) : Int := match T.idxOf? 10 with
  | none => -1
  | some i => i
theorem idxInt_eq (T : List UInt8) : Lib.indexByte T 10 = idxInt T := by
  rcases hq : Lib.indexByte T 10 with n | n
  · obtain ⟨h1, h2⟩ := Lib.indexByte_some (o := n) hq
    rw [idxInt, idx_some h1 h2]
    rfl
  · have := Lib.indexByte_ge T 10
    have h1 : Lib.indexByte T 10 = -1 := by rw [hq] at this ⊢; omega
    rw [idxInt, idx_none (Lib.indexByte_none h1), ← hq, h1]

theorem begF_lines (S : List UInt8) : ∀ (n at0 : Nat), match begF S n at0 with
    | none => (lines (S.drop at0)).length ≤ n
    | some a => ∃ t, lines (S.drop a) = t ∧ (lines (S.drop at0)).drop n = t
  | 0, at0 => ⟨_, rfl, rfl⟩
  | n + 1, at0 => by
    rw [begF]
    rcases idx_cases (S.drop at0) with ⟨h1, h2⟩ | ⟨i, h1, h2, h3, h4⟩
    · rw [h1, lines_none _ h2]
      simp
    · rw [h1, lines_cut i _ h2 h4]
      have ih := begF_lines S n (at0 + i + 1)
      have hd : (S.drop at0).drop (i + 1) = S.drop (at0 + i + 1) := by rw [List.drop_drop]; congr 1
      rw [hd]
      simp only
      cases hb : begF S n (at0 + i + 1) with
      | none => rw [hb] at ih; simp only at ih ⊢; simpa using ih
      | some a =>
        rw [hb] at ih
        obtain ⟨t, h5, h6⟩ := ih
        exact ⟨t, h5, by simpa using h6⟩

theorem begF_le (S : List UInt8) : ∀ (n at0 a : Nat), begF S n at0 = some a → at0 ≤ S.length → at0 ≤ a ∧ a ≤ S.length
  | 0, at0, a, h, hl => by rw [begF] at h; injection h with h; omega
  | n + 1, at0, a, h, hl => by
    rw [begF] at h
    rcases idx_cases (S.drop at0) with ⟨h1, _⟩ | ⟨i, h1, _, h3, _⟩
    · rw [h1] at h; cases h
    · rw [h1] at h
      rw [List.length_drop] at h3
      have := begF_le S n (at0 + i + 1) a h (by omega)
      omega

/-- The first line of a text. -/
def firstL (T : List UInt8) : List UInt8 := match T.idxOf? 10 with
  | none => T
  | some i => T.take i
theorem firstL_head (T : List UInt8) : (lines T)[0]? = some (firstL T) := by
  rcases idx_cases T with ⟨h1, h2⟩ | ⟨i, h1, h2, h3, h4⟩
  · rw [lines_none _ h2, firstL, h1]; rfl
  · rw [lines_cut i _ h2 h4, firstL, h1]; rfl

/-- The n-th line, by its beginning. -/
theorem line_at (S : List UInt8) (n : Nat) : (match begF S n 0 with | none => none | some a => some (firstL (S.drop a))) = (lines S)[n]? := by
  have h := begF_lines S n 0
  rw [List.drop_zero] at h
  cases hb : begF S n 0 with
  | none => rw [hb] at h; rw [List.getElem?_eq_none h]
  | some a =>
    rw [hb] at h
    obtain ⟨t, h5, h6⟩ := h
    have := firstL_head (S.drop a)
    rw [h5, ← h6, List.getElem?_drop, Nat.add_zero] at this
    exact this.symm
end Go.Proofs.Ytofbhdpcpoclaaa
