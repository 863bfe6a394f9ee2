/- Plain laws on places of a text. No program, no condition. -/
import Derived.Test.YtofbhdpcpoclaaaLinesR
import Derived.Lib.LastIndexByte
namespace Go.Proofs.Ytofbhdpcpoclaaa

/-- A place's line and byte. -/
def atF (S : List UInt8) : Nat → Nat × Nat
  | 0 => (1, 1)
  | i + 1 => if S[i]? = some 10 then ((atF S i).1 + 1, 1) else ((atF S i).1, (atF S i).2 + 1)

theorem begF_succ (S : List UInt8) : ∀ (m at0 : Nat), begF S (m + 1) at0 = match begF S m at0 with
    | none => none
    | some a => match (S.drop a).idxOf? 10 with
      | none => none
      | some i => some (a + i + 1)
  | 0, at0 => by
    simp only [begF]
    cases (S.drop at0).idxOf? 10 <;> rfl
  | m + 1, at0 => by
    rw [begF]
    conv => rhs; rw [begF]
    cases hq : (S.drop at0).idxOf? 10 with
    | none => rfl
    | some i =>
      simp only
      exact begF_succ S m (at0 + i + 1)

theorem at_inv (S : List UInt8) : ∀ (n : Nat), n ≤ S.length → 1 ≤ (atF S n).1 ∧ 1 ≤ (atF S n).2 ∧ (atF S n).2 ≤ n + 1 ∧ (atF S n).1 ≤ n + 1 ∧ begF S ((atF S n).1 - 1) 0 = some (n + 1 - (atF S n).2) ∧
    (∀ j : Nat, n + 1 - (atF S n).2 ≤ j → j < n → S[j]? ≠ some 10) ∧ (atF S n).1 = 1 + (S.take n).count 10
  | 0, _ => ⟨Nat.le_refl 1, Nat.le_refl 1, Nat.le_refl 1, Nat.le_refl 1, rfl, fun j _ h => by omega, rfl⟩
  | n + 1, h => by
    obtain ⟨h1, h2, h3, h4, h5, h6, h7⟩ := at_inv S n (by omega)
    have htk : S.take (n + 1) = S.take n ++ [S[n]'(by omega)] := by rw [List.take_succ_eq_append_getElem (by omega)]
    by_cases hc : S[n]? = some 10
    · have e : atF S (n + 1) = ((atF S n).1 + 1, 1) := by rw [atF, if_pos hc]
      have hcn : S[n]'(by omega) = 10 := by
        rw [List.getElem?_eq_getElem (by omega)] at hc
        injection hc
      rw [e]
      refine ⟨by simp only; omega, by simp only; omega, by simp only; omega, by simp only; omega, ?_, fun j hj hjn => ?_, ?_⟩
      · simp only
        obtain ⟨m, hm⟩ : ∃ m, (atF S n).1 = m + 1 := ⟨(atF S n).1 - 1, by omega⟩
        rw [hm] at h5 ⊢
        rw [Nat.add_sub_cancel] at h5
        rw [Nat.add_sub_cancel, begF_succ, h5]
        have hi : (S.drop (n + 1 - (atF S n).2)).idxOf? 10 = some (n - (n + 1 - (atF S n).2)) := idx_some
          (by rw [List.getElem?_drop, show n + 1 - (atF S n).2 + (n - (n + 1 - (atF S n).2)) = n by omega]; exact hc)
          (fun j hj => by rw [List.getElem?_drop]; exact h6 _ (by omega) (by omega))
        simp only [hi]
        congr 1
        omega
      · simp only at hj
        omega
      · simp only
        rw [htk, List.count_append, hcn, h7]
        simp
        omega
    · have e : atF S (n + 1) = ((atF S n).1, (atF S n).2 + 1) := by rw [atF, if_neg hc]
      have hcn : S[n]'(by omega) ≠ 10 := fun q => hc (by rw [List.getElem?_eq_getElem (by omega), q])
      rw [e]
      refine ⟨h1, by simp only; omega, by simp only; omega, by simp only; omega, ?_, fun j hj hjn => ?_, ?_⟩
      · simp only
        rw [h5]
        congr 1
        omega
      · simp only at hj
        rcases Nat.lt_or_ge j n with q | q
        · exact h6 j (by omega) q
        · rw [show j = n by omega]; exact hc
      · simp only
        rw [htk, List.count_append, h7]
        simp [hcn]

theorem at_inj (S : List UInt8) (i n : Nat) (hi : i ≤ S.length) (hn : n ≤ S.length) (h : atF S i = atF S n) : i = n := by
  obtain ⟨_, a2, a3, _, a5, _⟩ := at_inv S i hi
  obtain ⟨_, b2, b3, _, b5, _⟩ := at_inv S n hn
  rw [h] at a5 a2 a3
  rw [a5] at b5
  injection b5 with b5
  omega

theorem atF_take (S : List UInt8) (p : Nat) : ∀ (n : Nat), n ≤ p → p ≤ S.length → atF (S.take p) n = atF S n
  | 0, _, _ => rfl
  | n + 1, h, hp => by
    have : (S.take p)[n]? = S[n]? := by rw [List.getElem?_take, if_pos (by omega)]
    rw [atF, atF, this, atF_take S p n (by omega) hp]

/-- The byte of a place, by the last byte 10 ahead. -/
theorem at_byte (s : ByteArray) (n : Nat) (hn : n ≤ s.size) : ((atF s.data.toList n).2 : Int) = n - Lib.lastIndexByte (s.extract 0 n) 10 := by
  obtain ⟨h1, h2, h3, h4, h5, h6, h7⟩ := at_inv s.data.toList n (by rw [size_list]; exact hn)
  have hsz : (s.extract 0 n).size = n := by rw [ByteArray.size_extract]; omega
  have hbyte : ∀ j, j < n → (((s.extract 0 n).data[j]!).toNat : Int) = 10 → s.data.toList[j]? = some 10 := by
    intro j hj hb
    have hx : (s.extract 0 n).data.toList = s.data.toList.take n := by rw [extract_list, List.drop_zero]
    have h8 : (s.extract 0 n).data.toList[j]? = some ((s.extract 0 n).data[j]!) := by
      have hjz : j < (s.extract 0 n).data.size := by have hz : (s.extract 0 n).data.size = n := hsz; omega
      rw [Array.getElem?_toList, Array.getElem?_eq_getElem hjz, getElem!_pos _ j hjz]
    rw [hx, List.getElem?_take, if_pos hj] at h8
    rw [h8]
    congr 1
    apply UInt8.toNat_inj.1
    show _ = 10
    omega
  have hnot : ∀ j, j < n → (((s.extract 0 n).data[j]!).toNat : Int) ≠ 10 → s.data.toList[j]? ≠ some 10 := by
    intro j hj hb hq
    have hx : (s.extract 0 n).data.toList = s.data.toList.take n := by rw [extract_list, List.drop_zero]
    have h8 : (s.extract 0 n).data.toList[j]? = some ((s.extract 0 n).data[j]!) := by
      have hjz : j < (s.extract 0 n).data.size := by have hz : (s.extract 0 n).data.size = n := hsz; omega
      rw [Array.getElem?_toList, Array.getElem?_eq_getElem hjz, getElem!_pos _ j hjz]
    rw [hx, List.getElem?_take, if_pos hj, hq] at h8
    injection h8 with h8
    rw [← h8] at hb
    exact hb rfl
  have hstart : n + 1 - (atF s.data.toList n).2 = 0 ∨ s.data.toList[n + 1 - (atF s.data.toList n).2 - 1]? = some 10 := by
    clear h1 h2 h3 h4 h5 h6 h7 hbyte hnot hsz
    induction n with
    | zero => left; rfl
    | succ n ih =>
      by_cases hc : s.data.toList[n]? = some 10
      · right
        rw [atF, if_pos hc]
        exact hc
      · rw [atF, if_neg hc]
        rcases ih (by omega) with q | q
        · left; simp only; omega
        · right
          rw [show n + 1 + 1 - ((atF s.data.toList n).2 + 1) - 1 = n + 1 - (atF s.data.toList n).2 - 1 by omega]
          exact q
  rcases Lib.lastIndexByte_spec (s.extract 0 n) 10 with ⟨e, hall⟩ | ⟨i, hi, e, hit, hbehind⟩
  · rw [e]
    rw [hsz] at hall
    rcases hstart with q | q
    · omega
    · by_cases hz : n + 1 - (atF s.data.toList n).2 = 0
      · omega
      · exact absurd q (hnot _ (by omega) (hall _ (by omega)))
  · rw [e]
    rw [hsz] at hi hbehind
    have hi10 := hbyte i hi hit
    have hlt : i < n + 1 - (atF s.data.toList n).2 := by
      rcases Nat.lt_or_ge i (n + 1 - (atF s.data.toList n).2) with q | q
      · exact q
      · exact absurd hi10 (h6 i q hi)
    rcases hstart with q | q
    · omega
    · rcases Nat.lt_or_ge i (n + 1 - (atF s.data.toList n).2 - 1) with q2 | q2
      · exact absurd q (hnot _ (by omega) (hbehind _ q2 (by omega)))
      · omega
end Go.Proofs.Ytofbhdpcpoclaaa
