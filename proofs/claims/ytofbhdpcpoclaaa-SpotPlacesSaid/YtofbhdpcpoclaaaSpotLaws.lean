/- Plain laws of spot: what Put puts in, Pick picks and Cut takes out again. No program. -/
import Derived.Test.YtofbhdpcpoclaaaSpotW3
import Derived.Test.YtofbhdpcpoclaaaSpotW4
namespace Go.Proofs.Ytofbhdpcpoclaaa

theorem put_within (n : Int) (S : List UInt8) (hS : (S.length : Int) = n) : ∀ (l : List Edit) (pos last : Nat) (c a : Int) (tot : Nat), rightB n last c l = true → tot = pos + (putOut S last l).length → a ≤ pos →
    withinB tot a (putSpans pos last l) = true
  | [], _, _, _, _, _, _, _, _ => rfl
  | e :: r, pos, last, c, a, tot, hR, ht, ha => by
    obtain ⟨h1, h2, h3, h4, h5⟩ := (rightB_cons _ _ _ _ _).1 hR
    obtain ⟨at0, h0⟩ := Int.eq_ofNat_of_zero_le (by omega : 0 ≤ e.1)
    have h6 : rightB n (at0 : Int) (c + e.2.size) r = true := by rw [← h0]; exact h5
    have hlen : (putOut S last (e :: r)).length = (at0 - last) + e.2.size + (putOut S at0 r).length := by
      rw [putOut, h0, List.length_append, List.length_append, List.length_drop, List.length_take]
      have : e.2.data.toList.length = e.2.size := by cases e.2; rfl
      simp only [Int.toNat_natCast]
      omega
    rw [putSpans, withinB_cons, h0]
    simp only [Int.toNat_natCast]
    refine ⟨by omega, by omega, by omega, ?_⟩
    exact put_within n S hS r _ at0 _ _ tot h6 (by omega) (Int.le_refl _)

theorem put_len (n : Int) (S : List UInt8) (hS : (S.length : Int) = n) : ∀ (l : List Edit) (last : Nat) (c : Int), rightB n last c l = true → (last : Int) ≤ n → ((putOut S last l).length : Int) + last + c ≤ n + 65536
  | [], last, c, hR, hl => by
    rw [rightB] at hR
    have := of_decide_eq_true hR
    rw [putOut, List.length_drop]
    omega
  | e :: r, last, c, hR, hl => by
    obtain ⟨h1, h2, h3, h4, h5⟩ := (rightB_cons _ _ _ _ _).1 hR
    obtain ⟨at0, h0⟩ := Int.eq_ofNat_of_zero_le (by omega : 0 ≤ e.1)
    have h6 : rightB n (at0 : Int) (c + e.2.size) r = true := by rw [← h0]; exact h5
    have ih := put_len n S hS r at0 _ h6 (by omega)
    rw [putOut, h0, List.length_append, List.length_append, List.length_drop, List.length_take]
    have : e.2.data.toList.length = e.2.size := by cases e.2; rfl
    simp only [Int.toNat_natCast]
    omega

theorem take_drop_join (S : List UInt8) (a b : Nat) (h : a ≤ b) (hb : b ≤ S.length) : (S.take b).drop a ++ S.drop b = S.drop a := by
  rw [← List.drop_append_of_le_length (by rw [List.length_take]; omega), List.take_append_drop]

theorem bytes_ext {a b : ByteArray} (h : a.data.toList = b.data.toList) : a = b := by
  cases a; cases b
  congr 1
  exact Array.toList_inj.1 h

theorem put_cut (n : Int) (S : List UInt8) (hS : (S.length : Int) = n) : ∀ (l : List Edit) (pre : List UInt8) (last : Nat) (c : Int) (a : Nat), rightB n last c l = true → a ≤ pre.length →
    cutOut (pre ++ putOut S last l) a (putSpans pre.length last l) = pre.drop a ++ S.drop last
  | [], pre, last, c, a, _, ha => by
    rw [putSpans, cutOut, putOut, List.drop_append_of_le_length ha]
  | e :: r, pre, last, c, a, hR, ha => by
    obtain ⟨h1, h2, h3, h4, h5⟩ := (rightB_cons _ _ _ _ _).1 hR
    obtain ⟨at0, h0⟩ := Int.eq_ofNat_of_zero_le (by omega : 0 ≤ e.1)
    have h6 : rightB n (at0 : Int) (c + e.2.size) r = true := by rw [← h0]; exact h5
    have hc : ((S.take at0).drop last).length = at0 - last := by rw [List.length_drop, List.length_take]; omega
    have ht : e.2.data.toList.length = e.2.size := by cases e.2; rfl
    have hsplit : pre ++ putOut S last (e :: r) = (pre ++ (S.take at0).drop last ++ e.2.data.toList) ++ putOut S at0 r := by
      rw [putOut, h0]
      simp only [Int.toNat_natCast, List.append_assoc]
    have hl : (pre ++ (S.take at0).drop last ++ e.2.data.toList).length = pre.length + (at0 - last) + e.2.size := by
      rw [List.length_append, List.length_append, hc, ht]
    have ih := put_cut n S hS r (pre ++ (S.take at0).drop last ++ e.2.data.toList) at0 _ (pre.length + (at0 - last) + e.2.size) h6 (by omega)
    rw [hl] at ih
    rw [putSpans, cutOut, h0]
    simp only [Int.toNat_natCast]
    rw [hsplit, ih, ← hl, List.drop_length, List.nil_append]
    have h7 : List.take (pre.length + (at0 - last)) (pre ++ (S.take at0).drop last ++ e.2.data.toList ++ putOut S at0 r) = pre ++ (S.take at0).drop last := by
      rw [List.append_assoc]
      have : pre.length + (at0 - last) = (pre ++ (S.take at0).drop last).length := by rw [List.length_append, hc]
      rw [this, List.take_left']
      rfl
    rw [h7, List.drop_append_of_le_length ha, List.append_assoc]
    congr 1
    exact take_drop_join S last at0 (by omega) (by omega)

theorem put_picks (n : Int) (S : List UInt8) (hS : (S.length : Int) = n) (t : ByteArray) : ∀ (l : List Edit) (pre : List UInt8) (last : Nat) (c : Int), rightB n last c l = true → t.data.toList = pre ++ putOut S last l →
    picks t (putSpans pre.length last l) = l.map (·.2)
  | [], _, _, _, _, _ => rfl
  | e :: r, pre, last, c, hR, ht => by
    obtain ⟨h1, h2, h3, h4, h5⟩ := (rightB_cons _ _ _ _ _).1 hR
    obtain ⟨at0, h0⟩ := Int.eq_ofNat_of_zero_le (by omega : 0 ≤ e.1)
    have h6 : rightB n (at0 : Int) (c + e.2.size) r = true := by rw [← h0]; exact h5
    have hc : ((S.take at0).drop last).length = at0 - last := by rw [List.length_drop, List.length_take]; omega
    have ht2 : e.2.data.toList.length = e.2.size := by cases e.2; rfl
    have hsplit : t.data.toList = (pre ++ (S.take at0).drop last ++ e.2.data.toList) ++ putOut S at0 r := by
      rw [ht, putOut, h0]
      simp only [Int.toNat_natCast, List.append_assoc]
    have hl : (pre ++ (S.take at0).drop last ++ e.2.data.toList).length = pre.length + (at0 - last) + e.2.size := by
      rw [List.length_append, List.length_append, hc, ht2]
    have ih := put_picks n S hS t r (pre ++ (S.take at0).drop last ++ e.2.data.toList) at0 _ h6 hsplit
    rw [hl] at ih
    rw [putSpans, h0]
    simp only [Int.toNat_natCast, picks, List.map_cons]
    rw [show List.map (fun p : Span => t.extract p.1.toNat p.2.toNat) (putSpans (pre.length + (at0 - last) + e.2.size) at0 r) = List.map (·.2) r from ih]
    congr 1
    apply bytes_ext
    rw [extract_list, hsplit, ← hl, List.take_left', ← (show (pre ++ (S.take at0).drop last).length = pre.length + (at0 - last) by rw [List.length_append, hc]), List.drop_left']
    · rfl
    · rfl
end Go.Proofs.Ytofbhdpcpoclaaa
