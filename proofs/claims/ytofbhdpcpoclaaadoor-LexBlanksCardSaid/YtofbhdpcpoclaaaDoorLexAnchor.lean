/- The walk of touchstonelaw05.anchor. -/
import Derived.Test.YtofbhdpcpoclaaaDoorLexW6
namespace Go.Proofs.YtofbhdpcpoclaaaDoor
open Go.RowKit

def exToks : List Tok := [⟨2, [], [108, 101, 116], 0⟩, ⟨1, [32], [120], 4⟩, ⟨4, [], [61], 5⟩, ⟨4, [], [45], 6⟩, ⟨3, [], [49], 7⟩, ⟨5, [32, 45, 45, 122], [], 12⟩]
theorem ex_lex : lexAll (ByteArray.mk #[108, 101, 116, 32, 120, 61, 45, 49, 32, 45, 45, 122]).data.toList = .ok exToks := by rfl

set_option maxHeartbeats 1000000 in
set_option maxRecDepth 100000 in
theorem anchor_any (w : World) : Calls Tryd.prog 7 #[] w fun e w' => e = .returned (.bool true) ∧ Below w.heap.size w w' := by
  go_enter Tryd.func7, Tryd.ntmps7
  go_wp2_with (go_at_call 8; refine (lex_any ⟨#[108, 101, 116, 32, 120, 61, 45, 49, 32, 45, 45, 122]⟩ _ (by decide)).mono ?_)
  rintro e w1 ⟨hb, hm⟩
  rw [ex_lex] at hm
  obtain ⟨v', rfl, hr⟩ := hm
  obtain ⟨ao', cap', rfl, hc', hf'⟩ := hr.form (fun _ => rfl)
  obtain ⟨b', off', rfl, hB, hcell⟩ := hf' (by decide)
  have hb2 := hb.alloc hb.size (.cells #[.int .i64 0, .int .i64 0] 26)
  have up : ∀ p u, p.block < w1.heap.size → w1.cell? p = some u → (w1.alloc (.cells #[.int .i64 0, .int .i64 0] 26)).cell? p = some u := fun p u hp h => ((Below.refl w1.heap.size w1).alloc (Nat.le_refl _) _).cell hp ▸ h
  have q0 : (w1.alloc (.cells #[.int .i64 0, .int .i64 0] 26)).cell? ⟨b', off', none⟩ = some (.int .i64 2) := up _ _ hB (by have := hcell 0 0 (.int .i64 2) (by decide) rfl; simpa using this)
  have q1 : (w1.alloc (.cells #[.int .i64 0, .int .i64 0] 26)).cell? ⟨b', off' + 4 + 2, none⟩ = some (.string ⟨#[120]⟩) := up _ _ hB (by have := hcell 1 2 (.string ⟨#[120]⟩) (by decide) rfl; simpa using this)
  have q2 : (w1.alloc (.cells #[.int .i64 0, .int .i64 0] 26)).cell? ⟨b', off' + 12 + 2, none⟩ = some (.string ⟨#[45]⟩) := up _ _ hB (by have := hcell 3 2 (.string ⟨#[45]⟩) (by decide) rfl; simpa using this)
  have q3 : (w1.alloc (.cells #[.int .i64 0, .int .i64 0] 26)).cell? ⟨b', off' + 16, none⟩ = some (.int .i64 3) := up _ _ hB (by have := hcell 4 0 (.int .i64 3) (by decide) rfl; simpa using this)
  have q4 : (w1.alloc (.cells #[.int .i64 0, .int .i64 0] 26)).cell? ⟨b', off' + 20 + 1, none⟩ = some (.string ⟨#[32, 45, 45, 122]⟩) := up _ _ hB (by have := hcell 5 1 (.string ⟨#[32, 45, 45, 122]⟩) (by decide) rfl; simpa using this)
  have f0 : (w1.alloc (.cells #[.int .i64 0, .int .i64 0] 26)).cell? ⟨w1.heap.size, 0, none⟩ = some (.int .i64 0) := by rw [Lib.cell_of_heap (heap_alloc_new _ _)]; rfl
  have f1 : (w1.alloc (.cells #[.int .i64 0, .int .i64 0] 26)).cell? ⟨w1.heap.size, 1, none⟩ = some (.int .i64 0) := by rw [Lib.cell_of_heap (heap_alloc_new _ _)]; rfl
  have hlen : exToks.length = 6 := rfl
  rw [hlen]
  clear hcell hf' hr hc' up hlen
  go_wp2
  go_ret
  exact ⟨rfl, hb2⟩
end Go.Proofs.YtofbhdpcpoclaaaDoor
