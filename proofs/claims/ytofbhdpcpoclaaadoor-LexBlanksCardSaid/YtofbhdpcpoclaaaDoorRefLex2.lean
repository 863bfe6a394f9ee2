/- The walks of the reference's key and sign. -/
import Derived.Test.YtofbhdpcpoclaaaDoorRefLex1
namespace Go.Proofs.YtofbhdpcpoclaaaDoor
open Go.RowKit

def refKeyL : List (List UInt8) := [[105, 109, 112, 111, 114, 116], [112, 117, 98], [102, 117, 110], [108, 101, 116], [105, 110], [105, 102], [116, 104, 101, 110], [101, 108, 115, 101], [97, 115, 115, 101, 114, 116], [116, 114, 117, 101], [102, 97, 108, 115, 101], [110, 111, 116], [105, 110, 116], [98, 111, 111, 108], [114, 101, 115]]
theorem refKey_perm : refKeyL.Perm keyL := by decide
theorem refKey_mem (x : List UInt8) : x ∈ refKeyL ↔ x ∈ keyL := refKey_perm.mem_iff

def rowOf (l : List (List UInt8)) : Array Value := (l.map fun x => Value.string ⟨x.toArray⟩).toArray
theorem rowOf_at (l : List (List UInt8)) (k : Nat) (h : k < l.length) : (rowOf l)[k]? = some (.string ⟨l[k].toArray⟩) := by
  simp [rowOf, h]

theorem none_of {x : List UInt8} {l : List (List UInt8)} (h : ∀ j, (hj : j < l.length) → l[j] ≠ x) : x ∉ l := by
  intro hx
  obtain ⟨j, hj, e⟩ := List.mem_iff_getElem.1 hx
  exact h j hj e

theorem str_eq (x : List UInt8) (s : ByteArray) : ((ByteArray.mk x.toArray).toList == s.toList) = decide (x = s.data.toList) := by
  rw [Lib.toList_data, Lib.toList_data]
  by_cases h : x = s.data.toList
  · rw [decide_eq_true h, beq_iff_eq]; exact h
  · rw [decide_eq_false h, ← Bool.not_eq_true, beq_iff_eq]; exact h

set_option maxHeartbeats 1000000 in
set_option maxRecDepth 100000 in
theorem refKey_any (s : ByteArray) (w : World) :
    Calls Tryd.prog 28 #[.string s] w fun e w' => e = .returned (.bool (decide (s.data.toList ∈ keyL))) ∧ Below w.heap.size w w' := by
  have hz : ∀ k, k < 15 → k < refKeyL.length := fun k h => h
  go_enter Tryd.func28, Tryd.ntmps28
  go_wp2
  generalize hw : w.alloc _ = wx
  have hh : wx.heap[w.heap.size]? = some (.cells (rowOf refKeyL) 70 (0, 0)) := by rw [← hw]; exact heap_alloc_new w _
  have hb : Below w.heap.size w wx := by rw [← hw]; exact (Below.refl _ _).alloc (Nat.le_refl _) _
  clear hw
  go_loop [4] (fun i => ∃ k : Nat, k ≤ 15 ∧ i = .int .i64 k ∧ ∀ j, (hj : j < refKeyL.length) → j < k → refKeyL[j] ≠ s.data.toList) (fun i => 15 - (intOf i).toNat)
  case atStart => exact ⟨0, by omega, rfl, fun j _ h => absurd h (by omega)⟩
  case round =>
    obtain ⟨k, hk, rfl, hj⟩ := hrel
    by_cases hlt : k < 15
    · have hkl := hz k hlt
      have hI : (k : Int) < 15 := by omega
      have hc : wx.cell? ⟨w.heap.size, k, none⟩ = some (.string ⟨refKeyL[k].toArray⟩) := by rw [Lib.cell_of_heap hh]; exact rowOf_at _ _ hkl
      have hs := str_eq refKeyL[k] s
      by_cases he : refKeyL[k] = s.data.toList
      · have hm : s.data.toList ∈ keyL := (refKey_mem _).1 (he ▸ List.getElem_mem _)
        rw [decide_eq_true he] at hs
        generalize ByteArray.mk refKeyL[k].toArray = y at hc hs
        have HM := Lib.hid hm
        clear hm he hh hj
        go_wp2
        go_ret
        exact ⟨ret_bool (decide_eq_true HM.out).symm, hb⟩
      · rw [decide_eq_false he] at hs
        have HJ : Hid (∀ j, (hj : j < refKeyL.length) → j < k + 1 → refKeyL[j] ≠ s.data.toList) := Lib.hid (fun j hjl hjk => by
          by_cases hkj : j = k
          · subst hkj; exact he
          · exact hj j hjl (by omega))
        generalize ByteArray.mk refKeyL[k].toArray = y at hc hs
        clear he hh hj
        go_wp2
        go_round
        case rel => exact ⟨k + 1, by omega, by go_num, HJ.out⟩
        case measure => simp [intOf]; omega
    · have hm : s.data.toList ∉ keyL := fun q => none_of (fun j hjl => hj j hjl (by have : refKeyL.length = 15 := rfl; omega)) ((refKey_mem _).2 q)
      have HM := Lib.hid hm
      have hI : decide ((k : Int) < 15) = false := decide_eq_false (by omega)
      clear hm hj hh
      go_wp2
      go_ret
      exact ⟨ret_bool (decide_eq_false HM.out).symm, hb⟩
end Go.Proofs.YtofbhdpcpoclaaaDoor
