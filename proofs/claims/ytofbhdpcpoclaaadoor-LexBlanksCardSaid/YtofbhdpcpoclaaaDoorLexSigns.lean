/- The walk of lex.signs. -/
import Derived.Test.YtofbhdpcpoclaaaDoorLexW3
import Derived.Great.BuildSlice
import Derived.Deep.WholeRow
namespace Go.Proofs.YtofbhdpcpoclaaaDoor
open Go.RowKit

def signV : Array Value := (signL.map fun x => Value.string ⟨x.toArray⟩).toArray

set_option maxHeartbeats 400000 in
set_option maxRecDepth 100000 in
theorem signs_any (w : World) : Calls Tryd.prog 24 #[] w fun e w' => e = .returned (.agg signV) ∧ Below w.heap.size w w' := by
  go_enter Tryd.func24, Tryd.ntmps24
  apply wp_seq_k
  intro K0 hK0
  have HK := Lib.hid hK0
  clear hK0
  go_wp2
  apply HK.out
  apply wp_seq_k
  intro K1 hK1
  apply wp_region_lit
  refine wpList_buildTo rfl 59 _ rfl (some 1) rfl signV (by kernel_rfl) ?_
  refine wpList_store_rowTo rfl 59 _ _ rfl rfl w.heap.size signV rfl rfl 59 _ (heap_alloc_new _ _) (by kernel_rfl) (by decide) (by kernel_rfl) ?_
  rw [World.setRow_alloc_new]
  apply wpList_nil
  apply hK1
  go_wp2
  refine bodyPost_ret (v := .agg signV) (results_cell_row rfl _ _ w.heap.size 59 _ (0, 0) _ rfl (heap_alloc_new _ _) Tryd.underlying59 rfl (by kernel_rfl)) rfl ⟨rfl, (Below.refl _ _).alloc (Nat.le_refl _) _⟩
end Go.Proofs.YtofbhdpcpoclaaaDoor
