/- Laws on what lexing computes: where tokens stand; that they are the text. No program, no condition. -/
import Derived.Test.YtofbhdpcpoclaaaDoorLexPlain
namespace Go.Proofs.YtofbhdpcpoclaaaDoor

def tokLen (t : Tok) : Nat := t.lead.length + t.text.length
/-- Where the i-th token begins, with its lead. -/
def tokAt : List Tok → Nat → Nat
  | [], _ => 0
  | _ :: _, 0 => 0
  | t :: l, i + 1 => tokLen t + tokAt l i

theorem tokAt_zero (l : List Tok) : tokAt l 0 = 0 := by cases l <;> rfl
theorem tokAt_cons (t : Tok) (l : List Tok) (i : Nat) : tokAt (t :: l) (i + 1) = tokLen t + tokAt l i := rfl
theorem tokAt_succ : ∀ (l : List Tok) (i : Nat) (h : i < l.length), tokAt l (i + 1) = tokAt l i + tokLen l[i]
  | [], i, h => absurd h (by simp)
  | t :: l, 0, _ => by simp [tokAt, tokAt_zero]
  | t :: l, i + 1, h => by
    have := tokAt_succ l i (by simpa using h)
    simp only [tokAt_cons, List.getElem_cons_succ]
    rw [this]
    omega

theorem tokF_end (T : List UInt8) (h : (tokF T).1 = 5) : T = [] := by
  cases T with
  | nil => rfl
  | cons c r =>
    exfalso
    rw [tokF] at h
    split at h
    · rw [wordF] at h
      split at h
      · cases h
      · split at h <;> cases h
    · split at h
      · rw [numF] at h
        split at h <;> cases h
      · rw [symF] at h
        split at h <;> cases h

/-- The tokens of a text that begins at place p. -/
structure Laid (T : List UInt8) (p : Nat) (l : List Tok) : Prop where
  some : 0 < l.length
  whole : tokAt l l.length = T.length
  place : ∀ (i : Nat) (h : i < l.length), l[i].place = p + tokAt l i + l[i].lead.length
  last : ∀ (i : Nat) (h : i < l.length), l[i].kind = 5 ↔ i = l.length - 1
  empty : ∀ (i : Nat) (h : i < l.length), l[i].text = [] ↔ l[i].kind = 5
  text : ∀ (i : Nat) (h : i < l.length), (T.drop (tokAt l i + l[i].lead.length)).take l[i].text.length = l[i].text
  lead : ∀ (i : Nat) (h : i < l.length), (T.drop (tokAt l i)).take l[i].lead.length = l[i].lead

theorem Laid.inside {T : List UInt8} {p : Nat} {l : List Tok} (h : Laid T p l) : ∀ i, i ≤ l.length → tokAt l i ≤ T.length := by
  intro i hi
  have : ∀ k, i + k = l.length → tokAt l i ≤ T.length := by
    intro k
    induction k generalizing i with
    | zero => intro e; rw [← h.whole, ← e]; exact Nat.le_refl _
    | succ k ih =>
      intro e
      have := ih (i + 1) (by omega) (by omega)
      rw [tokAt_succ l i (by omega)] at this
      omega
  exact this (l.length - i) (by omega)

theorem Laid.count {T : List UInt8} {p : Nat} {l : List Tok} (h : Laid T p l) : l.length ≤ T.length + 1 := by
  have h1 : ∀ i, i < l.length → i ≤ tokAt l i := by
    intro i
    induction i with
    | zero => omega
    | succ i ih =>
      intro hi
      have h2 := ih (by omega)
      have h5 : l[i].kind ≠ 5 := fun q => by have := (h.last i (by omega)).1 q; omega
      have h6 : l[i].text ≠ [] := fun q => h5 ((h.empty i (by omega)).1 q)
      have h7 : 0 < l[i].text.length := List.length_pos_iff.2 h6
      rw [tokAt_succ l i (by omega), tokLen]
      omega
  have hs := h.some
  have := h1 (l.length - 1) (by omega)
  have := h.inside (l.length - 1) (by omega)
  omega

theorem lexF_laid : ∀ (n : Nat) (T : List UInt8) (p : Nat) (l : List Tok), lexF n T p = .ok l → Laid T p l
  | 0, _, _, _, h => by cases h
  | n + 1, T, p, l, h => by
    rw [lexF] at h
    have hk := leadF_le false T
    generalize hkk : leadF false T = k at h hk
    by_cases he : (tokF (T.drop k)).2.2 ≠ 0
    · rw [if_pos he] at h; cases h
    rw [if_neg he] at h
    by_cases h5 : (tokF (T.drop k)).1 = 5
    · rw [if_pos h5] at h
      injection h with h
      subst h
      have hnil := tokF_end _ h5
      have hl : T.length = k := by
        have := congrArg List.length hnil
        rw [List.length_drop, List.length_nil] at this
        omega
      have htk : (T.take k).length = k := by rw [List.length_take]; omega
      have one : ∀ i, i < 1 → i = 0 := fun i h => by omega
      refine ⟨by simp, by simp [tokAt, tokLen]; omega, ?_, ?_, ?_, ?_, ?_⟩ <;> (intro i hi; obtain rfl := one i hi; simp [tokAt]) <;> omega
    · rw [if_neg h5] at h
      have hpos := tokF_pos (T.drop k) (by omega) h5
      have hlen := tokF_len (T.drop k)
      rw [List.length_drop] at hlen
      generalize tokF (T.drop k) = t at h he h5 hpos hlen
      cases hr : lexF n ((T.drop k).drop t.2.1) (p + k + t.2.1) with
      | error e => simp only [hr] at h; cases h
      | ok r =>
        simp only [hr] at h
        injection h with h
        subst h
        have ih := lexF_laid n _ _ _ hr
        have htk : (T.take k).length = k := by rw [List.length_take]; omega
        have htx : ((T.drop k).take t.2.1).length = t.2.1 := by rw [List.length_take, List.length_drop]; omega
        have hone : tokLen ⟨t.1, T.take k, (T.drop k).take t.2.1, p + k⟩ = k + t.2.1 := by simp only [tokLen]; rw [htk, htx]
        have hs := ih.some
        refine ⟨by simp, ?_, ?_, ?_, ?_, ?_, ?_⟩
        · rw [List.length_cons, tokAt_cons, ih.whole, hone, List.length_drop, List.length_drop]; omega
        · intro i hi
          cases i with
          | zero => simp only [List.getElem_cons_zero, tokAt]; rw [htk]; omega
          | succ i =>
            have := ih.place i (by simpa using hi)
            simp only [List.getElem_cons_succ, tokAt_cons]
            rw [this, hone]; omega
        · intro i hi
          cases i with
          | zero => simp only [List.getElem_cons_zero, List.length_cons]; exact ⟨fun h => absurd h h5, fun h => by omega⟩
          | succ i =>
            have := ih.last i (by simpa using hi)
            simp only [List.getElem_cons_succ, List.length_cons]
            rw [this]; omega
        · intro i hi
          cases i with
          | zero =>
            simp only [List.getElem_cons_zero]
            exact ⟨fun h => by rw [h] at htx; simp at htx; omega, fun h => absurd h h5⟩
          | succ i =>
            simp only [List.getElem_cons_succ]
            exact ih.empty i (by simpa using hi)
        · intro i hi
          cases i with
          | zero => simp only [List.getElem_cons_zero, tokAt]; rw [htk, htx, Nat.zero_add]
          | succ i =>
            have := ih.text i (by simpa using hi)
            simp only [List.getElem_cons_succ, tokAt_cons]
            rw [List.drop_drop, List.drop_drop] at this
            rw [hone]
            have hi' : i < r.length := by simpa using hi
            rw [show k + t.2.1 + tokAt r i + r[i].lead.length = k + (t.2.1 + (tokAt r i + r[i].lead.length)) from by omega]
            exact this
        · intro i hi
          cases i with
          | zero => simp only [List.getElem_cons_zero, tokAt]; rw [htk, List.drop_zero]
          | succ i =>
            have := ih.lead i (by simpa using hi)
            simp only [List.getElem_cons_succ, tokAt_cons]
            rw [List.drop_drop, List.drop_drop] at this
            rw [hone]
            rw [show k + t.2.1 + tokAt r i = k + (t.2.1 + tokAt r i) from by omega]
            exact this

theorem lexF_fault : ∀ (n : Nat) (T : List UInt8) (p : Nat) (e : Nat × Nat), lexF n T p = .error e → T.length < n → p ≤ e.2 ∧ e.2 ≤ p + T.length ∧ (e.1 = 20 ∨ e.1 = 21)
  | 0, _, _, _, _, h => absurd h (by omega)
  | n + 1, T, p, e, h, hn => by
    rw [lexF] at h
    have hk := leadF_le false T
    generalize hkk : leadF false T = k at h hk
    by_cases he : (tokF (T.drop k)).2.2 ≠ 0
    · rw [if_pos he] at h
      injection h with h
      subst h
      refine ⟨by simp, by simp only; omega, ?_⟩
      simp only
      cases hd : T.drop k with
      | nil => rw [hd] at he; exact absurd rfl he
      | cons c r =>
        rw [hd] at he
        rw [tokF] at he ⊢
        by_cases hc : letterB c = true
        · rw [if_pos hc] at he ⊢
          simp only [wordF] at he ⊢
          split
          · exact .inl rfl
          · rename_i h40; rw [if_neg h40] at he; exfalso; apply he; split <;> rfl
        · rw [if_neg hc] at he ⊢
          by_cases hd : digitB c = true
          · rw [if_pos hd] at he ⊢
            simp only [numF] at he ⊢
            split
            · exact .inr rfl
            · rename_i h60; rw [if_neg h60] at he; exact absurd rfl he
          · rw [if_neg hd] at he ⊢
            rw [symF] at he ⊢
            cases hs : signF (c :: r) with
            | none => exact .inl rfl
            | some x => rw [hs] at he; exact absurd rfl he
    rw [if_neg he] at h
    by_cases h5 : (tokF (T.drop k)).1 = 5
    · rw [if_pos h5] at h; cases h
    · rw [if_neg h5] at h
      have hpos := tokF_pos (T.drop k) (by omega) h5
      have hlen := tokF_len (T.drop k)
      rw [List.length_drop] at hlen
      generalize tokF (T.drop k) = t at h he h5 hpos hlen
      cases hr : lexF n ((T.drop k).drop t.2.1) (p + k + t.2.1) with
      | ok r => simp only [hr] at h; cases h
      | error x =>
        simp only [hr] at h
        injection h with h
        subst h
        have := lexF_fault n _ _ _ hr (by rw [List.length_drop, List.length_drop]; omega)
        rw [List.length_drop, List.length_drop] at this
        omega

theorem lexAll_laid {S : List UInt8} {l : List Tok} (h : lexAll S = .ok l) : Laid S 0 l := by
  rw [lexAll] at h
  split at h
  · cases h
  · exact lexF_laid _ _ _ _ h

theorem lexAll_fault {S : List UInt8} {e : Nat × Nat} (h : lexAll S = .error e) : e.2 ≤ S.length ∧ (e.1 = 20 ∨ e.1 = 21 ∨ e.1 = 11) := by
  rw [lexAll] at h
  split at h
  · injection h with h; subst h; exact ⟨Nat.zero_le _, .inr (.inr rfl)⟩
  · have := lexF_fault _ _ _ _ h (by omega); omega
end Go.Proofs.YtofbhdpcpoclaaaDoor
