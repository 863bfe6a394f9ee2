/- Slices of records, read again. No program, no condition. -/
import Derived.Test.YtofbhdpcpoclaaaDoorBase
namespace Go.Proofs.YtofbhdpcpoclaaaDoor
open Go.RowKit

/-- What a walk reads of a slice of records whose number is known by another name. -/
theorem Rec.formN {α : Type} {B : Nat} {w : World} {v : Value} {sz n : Nat} {f : α → List Value} {l : List α} (h : Rec B w v sz f l) (hf : ∀ x, (f x).length = sz) (hn : l.length = n) :
    ∃ ao cap, v = .slice ao n cap ∧ n ≤ cap ∧ (0 < n → ∃ b off, ao = some ⟨b, off, none⟩ ∧ b < B ∧
      ∀ k j u, (hk : k < l.length) → (f l[k])[j]? = some u → w.cell? ⟨b, off + k * sz + j, none⟩ = some u) := by
  subst hn
  exact h.form hf

/-- Its cells. -/
theorem Rec.cells {α : Type} {B : Nat} {w : World} {ao : Option Addr} {n cap sz : Nat} {f : α → List Value} {l : List α} (h : Rec B w (.slice ao n cap) sz f l) (hf : ∀ x, (f x).length = sz) (h0 : 0 < l.length) :
    ∃ b off, ao = some ⟨b, off, none⟩ ∧ b < B ∧ ∀ k j u, (hk : k < l.length) → (f l[k])[j]? = some u → w.cell? ⟨b, off + k * sz + j, none⟩ = some u := by
  obtain ⟨ao', cap', hv, _, hc⟩ := h.form hf
  injection hv with q1 q2 q3
  subst q1
  exact hc h0
end Go.Proofs.YtofbhdpcpoclaaaDoor
