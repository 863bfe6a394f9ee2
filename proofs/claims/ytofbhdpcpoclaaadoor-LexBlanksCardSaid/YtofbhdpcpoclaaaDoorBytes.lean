/- Plain laws on texts as lists of bytes. No program, no condition. -/
import Derived.Test.YtofbhdpcpoclaaaDoorBase
import Derived.Lib.Bytealg
import Derived.Lib.IndexLaws
namespace Go.Proofs.YtofbhdpcpoclaaaDoor

theorem size_list (o : ByteArray) : o.data.toList.length = o.size := by cases o; rfl
theorem append_list (a b : ByteArray) : (a ++ b).data.toList = a.data.toList ++ b.data.toList := by simp
theorem bytes_ext {a b : ByteArray} (h : a.data.toList = b.data.toList) : a = b := by
  cases a; cases b
  congr 1
  exact Array.toList_inj.1 h
theorem extract_list (s : ByteArray) (a b : Nat) : (s.extract a b).data.toList = (s.data.toList.take b).drop a := by
  rw [Lib.extract_data, List.drop_take]
theorem extract_end (s : ByteArray) (a : Nat) : (s.extract a s.size).data.toList = s.data.toList.drop a := by
  rw [extract_list, List.take_of_length_le]
  simp
theorem ret_str {a b : ByteArray} (h : a = b) : Ending.returned (.string a) = .returned (.string b) := by rw [h]

theorem ten_cases (T : List UInt8) : (Lib.indexByte T 10 = -1 ∧ ∀ j : Nat, T[j]? ≠ some 10) ∨ ∃ i : Nat, Lib.indexByte T 10 = i ∧ T[i]? = some 10 ∧ i < T.length ∧ ∀ j : Nat, j < i → T[j]? ≠ some 10 := by
  rcases hq : Lib.indexByte T 10 with n | n
  · right
    obtain ⟨h1, h2⟩ := Lib.indexByte_some (o := n) hq
    exact ⟨n, rfl, h1, (List.getElem?_eq_some_iff.1 h1).1, h2⟩
  · left
    have := Lib.indexByte_ge T 10
    have h1 : Lib.indexByte T 10 = -1 := by rw [hq] at this ⊢; omega
    rw [hq] at h1
    refine ⟨h1, ?_⟩
    rw [← hq] at h1
    exact Lib.indexByte_none h1

def strLen : Value → Nat
  | .string s => s.size
  | _ => 0
end Go.Proofs.YtofbhdpcpoclaaaDoor
