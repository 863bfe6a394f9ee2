/- An argument that is a slice of ints, opened. No program in sight. -/
import Derived.Test.YtofbhdpcpoclaaaDoorOpen
import Derived.ProofKit
namespace Go.Proofs.YtofbhdpcpoclaaaDoor
open Go.ChangeShapes Go.WideShapes Go.Deep Go.RowKit

theorem open_intrec {H : Type} {enc : TypeId × Value → H} {P : Program} {w : World} {base : Nat} {spare : Nat → Bool} {held : Bool} {k : IntKind} {t e : TypeId} {fuel : Nat} {v : Value} {x : DataW H × List MemPlace}
    (ht : P.underlying t = some (.slice e)) (he : P.underlying e = some (.int k)) (hC : P.cellsOf e = 1) (h : DataW.trod enc P w base spare held fuel t [v] = some x) :
    ∃ l : List Int, Rec w.heap.size w v 1 (fun z => [.int k z]) l ∧ l.length ≤ maxLen ∧ ∀ i (hi : i < l.length), (Lit.int k l[i]).wf = true := by
  rcases open_ints ht he hC h with ⟨hcs, _⟩ | ⟨a, len, cap, zs, hcs, _, hlc, hcm, hm, _, hc, hwf⟩
  · obtain rfl : v = .slice none 0 0 := by simpa using hcs
    exact ⟨[], Rec.nil, Nat.zero_le _, fun k hk => absurd hk (by simp)⟩
  obtain rfl : v = .slice (some a) len cap := by simpa using hcs
  have hlm : len ≤ zs.length := by rw [hm]; split <;> omega
  rcases Nat.eq_zero_or_pos len with h0 | h0
  · subst h0
    exact ⟨[], Rec.nil, Nat.zero_le _, fun k hk => absurd hk (by simp)⟩
  obtain ⟨b, off, spot⟩ := a
  have hc0 := hc 0 (by omega)
  have hc0 : w.cell? ⟨b, off, spot⟩ = some (.int k (zs.getD 0 0)) := by simpa [Addr.add] using hc0
  have hspot : spot = none := World.cell?_spot hc0
  subst hspot
  have hb : b < w.heap.size := World.block_lt_of_cell? w _ hc0
  refine ⟨zs.take len, Rec.of (fun _ => rfl) (by simp; omega) hlc hb (by decide) (fun i h' j u hu => ?_), by simp; omega, fun i hi => hwf _ ?_⟩
  · have hil : i < zs.length := by simp at h'; omega
    have h1 := hc i hil
    rw [add_none] at h1
    have hj : j = 0 := by
      cases j with
      | zero => rfl
      | succ j => simp at hu
    subst hj
    simp only [List.getElem?_cons_zero, Option.some.injEq] at hu
    rw [Nat.mul_one, Nat.add_zero, h1, ← hu]
    simp [List.getD_eq_getElem?_getD, hil]
  · exact List.mem_of_mem_take (List.getElem_mem hi)
end Go.Proofs.YtofbhdpcpoclaaaDoor
