/- The arguments of spot's laws, opened. Closed facts of the program's table. -/
import Derived.Test.YtofbhdpcpoclaaaSpotPlain
import Derived.Test.YtofbhdpcpoclaaaOpen
import Derived.Test.YtofbhdpcpoclaaaRows
import Derived.KernelRfl
namespace Go.Proofs.Ytofbhdpcpoclaaa
open Go.ChangeShapes Go.WideShapes Go.Deep Go.RowKit

theorem open_edits {H : Type} {enc : TypeId × Value → H} {w : World} {base : Nat} {spare : Nat → Bool} {held : Bool} {fuel : Nat} {v : Value} {x : DataW H × List MemPlace}
    (h : DataW.trod enc Try.prog w base spare held fuel 31 [v] = some x) :
    ∃ l : List Edit, Rec w.heap.size w v 2 editCells l ∧ l.length ≤ maxLen ∧ ∀ k (hk : k < l.length), l[k].2.size ≤ maxLen := by
  refine open_recs (g := editCells) (Good := fun e : Edit => e.2.size ≤ maxLen) Try.underlying31 Try.underlying29 (by kernel_rfl) (by kernel_rfl) rfl (fun _ => rfl) (by decide) ?_ h
  intro us hlen hf
  obtain ⟨u0, n0, y0, h0, t0⟩ := hf 0 _ rfl
  obtain ⟨u1, n1, y1, h1, t1⟩ := hf 1 _ rfl
  obtain ⟨a, ha, _, _⟩ := DataW.trod_int Try.underlying3 t0
  obtain ⟨s, hs, _, hsz⟩ := DataW.trod_string Try.underlying9 t1
  match us, hlen with
  | [c0, c1], _ =>
    simp only [List.cons.injEq, and_true] at ha hs
    simp at h0 h1
    subst h0 h1 ha hs
    exact ⟨(a, s), rfl, hsz⟩

theorem open_spans {H : Type} {enc : TypeId × Value → H} {w : World} {base : Nat} {spare : Nat → Bool} {held : Bool} {fuel : Nat} {v : Value} {x : DataW H × List MemPlace}
    (h : DataW.trod enc Try.prog w base spare held fuel 24 [v] = some x) :
    ∃ l : List Span, Rec w.heap.size w v 2 spanCells l ∧ l.length ≤ maxLen := by
  obtain ⟨l, h1, h2, _⟩ := open_recs (g := spanCells) (Good := fun _ : Span => True) Try.underlying24 Try.underlying45 (by kernel_rfl) (by kernel_rfl) rfl (fun _ => rfl) (by decide) (by
    intro us hlen hf
    obtain ⟨u0, n0, y0, h0, t0⟩ := hf 0 _ rfl
    obtain ⟨u1, n1, y1, h1, t1⟩ := hf 1 _ rfl
    obtain ⟨a, ha, _, _⟩ := DataW.trod_int Try.underlying3 t0
    obtain ⟨s, hs, _, _⟩ := DataW.trod_int Try.underlying3 t1
    match us, hlen with
    | [c0, c1], _ =>
      simp only [List.cons.injEq, and_true] at ha hs
      simp at h0 h1
      subst h0 h1 ha hs
      exact ⟨(a, s), rfl, trivial⟩) h
  exact ⟨l, h1, h2⟩
end Go.Proofs.Ytofbhdpcpoclaaa
