/- What lexing computes, on lists of bytes. No program, no condition. -/
import Derived.Test.YtofbhdpcpoclaaaDoorBytes
namespace Go.Proofs.YtofbhdpcpoclaaaDoor

def letterB (c : UInt8) : Bool := (97 ≤ c && c ≤ 122) || (65 ≤ c && c ≤ 90)
def digitB (c : UInt8) : Bool := 48 ≤ c && c ≤ 57
def insideB (c : UInt8) : Bool := letterB c || digitB c || c == 95
def blankB (c : UInt8) : Bool := c == 32 || c == 9 || c == 13 || c == 10

/-- How many bytes stand ahead of a token; m: within a remark. -/
def leadF : Bool → List UInt8 → Nat
  | _, [] => 0
  | true, c :: r => if c = 10 then 1 + leadF false r else 1 + leadF true r
  | false, c :: r => if blankB c then 1 + leadF false r else if c = 45 ∧ r.head? = some 45 then 1 + leadF true r else 0

theorem leadF_le : ∀ (m : Bool) (T : List UInt8), leadF m T ≤ T.length
  | _, [] => by simp [leadF]
  | true, c :: r => by
    have h1 := leadF_le false r
    have h2 := leadF_le true r
    rw [leadF]
    split <;> simp <;> omega
  | false, c :: r => by
    have h1 := leadF_le false r
    have h2 := leadF_le true r
    rw [leadF]
    split
    · simp; omega
    · split <;> simp
      omega

theorem leadF_blanks : ∀ (T : List UInt8), leadF false T = (T.takeWhile blankB).length + leadF false (T.dropWhile blankB)
  | [] => by simp [leadF]
  | c :: r => by
    by_cases hc : blankB c = true
    · rw [List.takeWhile_cons_of_pos hc, List.dropWhile_cons_of_pos hc, leadF, if_pos hc, List.length_cons, leadF_blanks r]
      omega
    · rw [List.takeWhile_cons_of_neg hc, List.dropWhile_cons_of_neg hc]
      simp

theorem leadF_none : ∀ (T : List UInt8), (∀ j : Nat, T[j]? ≠ some 10) → leadF true T = T.length
  | [], _ => rfl
  | c :: r, h => by
    have h0 : c ≠ 10 := fun e => h 0 (by simp [e])
    rw [leadF, if_neg h0, leadF_none r (fun j => by have := h (j + 1); simpa using this), List.length_cons]
    omega

theorem leadF_some : ∀ (n : Nat) (T : List UInt8), T[n]? = some 10 → (∀ j : Nat, j < n → T[j]? ≠ some 10) → leadF true T = n + leadF false (T.drop n)
  | _, [], h, _ => by simp at h
  | 0, c :: r, h, _ => by
    have h0 : c = 10 := by simpa using h
    subst h0
    rw [leadF, if_pos rfl, List.drop_zero, leadF, if_pos (by decide)]
    omega
  | n + 1, c :: r, h, hj => by
    have h0 : c ≠ 10 := fun e => hj 0 (by omega) (by simp [e])
    rw [leadF, if_neg h0, leadF_some n r (by simpa using h) (fun j hjm => by have := hj (j + 1) (by omega); simpa using this)]
    simp
    omega

/-- At a remark. -/
theorem leadF_remark (T : List UInt8) (h : [45, 45] <+: T) : leadF false T = leadF true T := by
  obtain ⟨r, rfl⟩ := h
  show leadF false (45 :: 45 :: r) = leadF true (45 :: 45 :: r)
  have h1 : leadF false (45 :: 45 :: r) = 1 + leadF true (45 :: r) := by
    conv => lhs; rw [leadF]
    rw [if_neg (by decide), if_pos ⟨rfl, rfl⟩]
  have h2 : leadF true (45 :: 45 :: r) = 1 + leadF true (45 :: r) := by
    conv => lhs; rw [leadF]
    rw [if_neg (by decide)]
  rw [h1, h2]

theorem leadF_stop (T : List UInt8) (h : ¬ [45, 45] <+: T) (hb : T.takeWhile blankB = []) : leadF false T = 0 := by
  cases T with
  | nil => rfl
  | cons c r =>
    have hc : ¬ blankB c = true := fun q => by rw [List.takeWhile_cons_of_pos q] at hb; cases hb
    rw [leadF, if_neg hc, if_neg]
    rintro ⟨rfl, h2⟩
    cases r with
    | nil => cases h2
    | cons d r =>
      injection h2 with h2
      subst h2
      exact h ⟨r, rfl⟩

def keyL : List (List UInt8) := [[97, 115, 115, 101, 114, 116], [98, 111, 111, 108], [101, 108, 115, 101], [102, 97, 108, 115, 101], [102, 117, 110], [105, 102], [105, 109, 112, 111, 114, 116], [105, 110], [105, 110, 116], [108, 101, 116], [110, 111, 116], [112, 117, 98], [114, 101, 115], [116, 104, 101, 110], [116, 114, 117, 101]]
def twoL : List (List UInt8) := [[60, 62], [60, 61], [62, 61], [38, 38], [124, 124], [61, 62]]
def oneL : List UInt8 := [40, 41, 123, 125, 44, 58, 59, 46, 43, 45, 42, 47, 37, 61, 60, 62]
def signL : List (List UInt8) := twoL ++ oneL.map fun c => [c]
/-- The sign with which a text begins. -/
def signF (T : List UInt8) : Option (List UInt8) := signL.find? (fun x => x.isPrefixOf T)

def wordF (T : List UInt8) : Nat × Nat × Nat :=
  let w := T.takeWhile insideB
  if 40 < w.length then (0, 0, 20) else if w ∈ keyL then (2, w.length, 0) else (1, w.length, 0)

def numF (T : List UInt8) : Nat × Nat × Nat :=
  let w := T.takeWhile digitB
  if 60 < w.length ∨ (1 < w.length ∧ w[0]? = some 48) then (0, 0, 21) else (3, w.length, 0)

def symF (T : List UInt8) : Nat × Nat × Nat :=
  match signF T with
  | some x => (4, x.length, 0)
  | none => (0, 0, 20)

/-- The token with which a text begins: its kind and length, or an error. -/
def tokF : List UInt8 → Nat × Nat × Nat
  | [] => (5, 0, 0)
  | c :: r => if letterB c then wordF (c :: r) else if digitB c then numF (c :: r) else symF (c :: r)

structure Tok where
  kind : Nat
  lead : List UInt8
  text : List UInt8
  place : Nat

def tokCells (t : Tok) : List Value := [.int .i64 t.kind, .string ⟨t.lead.toArray⟩, .string ⟨t.text.toArray⟩, .int .i64 t.place]

/-- The tokens of a text from a place on: an error and its place, or the tokens. n: rounds at most. -/
def lexF : Nat → List UInt8 → Nat → Except (Nat × Nat) (List Tok)
  | 0, _, _ => .error (99, 0)
  | n + 1, T, p =>
    let k := leadF false T
    let U := T.drop k
    let t := tokF U
    if t.2.2 ≠ 0 then .error (t.2.2, p + k)
    else if t.1 = 5 then .ok [⟨5, T.take k, [], p + k⟩]
    else match lexF n (U.drop t.2.1) (p + k + t.2.1) with
      | .error e => .error e
      | .ok l => .ok (⟨t.1, T.take k, U.take t.2.1, p + k⟩ :: l)

/-- Of a whole text. -/
def lexAll (S : List UInt8) : Except (Nat × Nat) (List Tok) := if 65536 < S.length then .error (11, 0) else lexF (S.length + 1) S 0

theorem takeWhile_le {α : Type} (p : α → Bool) (l : List α) : (l.takeWhile p).length ≤ l.length := (List.takeWhile_prefix p).length_le

theorem signF_some {T x : List UInt8} (h : signF T = some x) : x <+: T ∧ 0 < x.length ∧ x.length ≤ 2 := by
  have h1 := List.find?_some h
  have h2 := List.mem_of_find?_eq_some h
  refine ⟨List.isPrefixOf_iff_prefix.1 h1, ?_⟩
  have : ∀ y ∈ signL, 0 < y.length ∧ y.length ≤ 2 := by decide
  exact this x h2

theorem tokF_len (T : List UInt8) : (tokF T).2.1 ≤ T.length := by
  cases T with
  | nil => simp [tokF]
  | cons c r =>
    rw [tokF]
    split
    · have := takeWhile_le insideB (c :: r)
      simp only [wordF]
      split
      · simp
      · split <;> exact this
    · split
      · have := takeWhile_le digitB (c :: r)
        simp only [numF]
        split
        · simp
        · exact this
      · rw [symF]
        split
        · rename_i x hx
          exact (signF_some hx).1.length_le
        · simp

theorem tokF_pos (T : List UInt8) (h : (tokF T).2.2 = 0) (h5 : (tokF T).1 ≠ 5) : 0 < (tokF T).2.1 := by
  cases T with
  | nil => simp [tokF] at h5
  | cons c r =>
    rw [tokF] at h h5 ⊢
    by_cases hc : letterB c = true
    · have hp : 0 < ((c :: r).takeWhile insideB).length := by rw [List.takeWhile_cons_of_pos (by simp [insideB, hc])]; simp
      rw [if_pos hc] at h ⊢
      simp only [wordF] at h ⊢
      split at h
      · cases h
      · rename_i h40
        rw [if_neg h40]
        split <;> exact hp
    · rw [if_neg hc] at h ⊢
      by_cases hd : digitB c = true
      · have hp : 0 < ((c :: r).takeWhile digitB).length := by rw [List.takeWhile_cons_of_pos hd]; simp
        rw [if_pos hd] at h ⊢
        simp only [numF] at h ⊢
        split at h
        · cases h
        · rename_i h60
          rw [if_neg h60]
          exact hp
      · rw [if_neg hd] at h ⊢
        rw [symF] at h ⊢
        split at h
        · rename_i x hx
          exact (signF_some hx).2.1
        · cases h
end Go.Proofs.YtofbhdpcpoclaaaDoor
