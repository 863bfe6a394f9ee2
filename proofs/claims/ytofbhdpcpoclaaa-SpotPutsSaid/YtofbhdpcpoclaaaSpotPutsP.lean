/- SpotPuts holds: at every text and edits the law returns true. No condition. -/
import Derived.Test.YtofbhdpcpoclaaaSpotPuts
import Derived.Test.YtofbhdpcpoclaaaSpotArgs
import Derived.Test.YtofbhdpcpoclaaaLaw
namespace Go.Proofs.Ytofbhdpcpoclaaa.spotPuts
open Go.ChangeShapes Go.WideShapes Go.ChangeAt Go.RowKit
set_option linter.unusedVariables false

theorem own : ownKnob Try.prog.godebug = none := by kernel_rfl

theorem walk (s : ByteArray) (v : Value) (l : List Edit) (w : World) (hs : s.size ≤ maxLen) (hv : Rec w.heap.size w v 2 editCells l) (hls : ∀ k, (h : k < l.length) → l[k].2.size ≤ maxLen) :
    Calls Try.prog 4 #[.string s, v] w fun e w' => e = .returned (.bool true) ∧ Below w.heap.size w w' := by
  have hs' : s.size ≤ 9223372036854775807 := by unfold maxLen at hs; omega
  by_cases h : l.length ≤ 20 ∧ ∀ k, (h : k < l.length) → l[k].2.size ≤ 200
  · by_cases h3 : 300 < s.size
    · exact puts_wide s v l w hs' hv h.1 h.2 h3
    · cases hR : rightB s.size 0 s.size l with
      | false => exact puts_wrong s v l w hv h.1 h.2 (by omega) hR
      | true => exact puts_right s v l w hv h.1 h.2 (by omega) hR
  · exact puts_no s v l w hs' hv hls h

set_option maxRecDepth 100000 in
theorem lifted (os : Os) (started : os.Started) (H : Type) (enc : TypeId × Value → H) :
    ReturnsInHanded {} Try.checked os 4 .any (Rows.spotPutsSpec.pre6 enc Try.prog Try.f4 Rows.spotPutsRow.domain false) (Rows.spotPutsSpec.post enc Try.prog Try.f4 false true false false) := by
  refine returnsInHanded_of_change (C := Try.checked) own started (by kernel_rfl) Try.func4
    (ChangeSpec.witness6 (enc := enc) (C := Try.checked) false ⟨#[], #[.string ByteArray.empty, .slice none 0 0], []⟩ 8 (by kernel_rfl) (by kernel_rfl) (by kernel_rfl) (by kernel_rfl)) ?_
  intro W base args ds gs before hval0 hW hcnd _
  have hval : ∀ (j : Nat) t v, Try.f4.params[j]? = some t → args[j]? = some v → Value.okWide Try.prog W .any base t v := hval0
  have hW' := hW
  obtain ⟨p, q, hA0, hV, rfl, hfz, hnd⟩ := hW
  have hA : DataW.TrodAll enc Try.prog W 0 (fun _ => true) true Try.f4.params.toList args.toList ds p := hA0
  rw [Try.params4] at hA hval
  obtain ⟨v0, vs0, d0, ds0, p0, q0, hargs, rfl, rfl, h0, r0⟩ := trodAll_cons hA
  obtain ⟨v1, vs1, d1, ds1, p1, q1, rfl, rfl, rfl, h1, r1⟩ := trodAll_cons r0
  obtain ⟨rfl, rfl, rfl⟩ := trodAll_nil r1
  obtain rfl : args = #[v0, v1] := by cases args; simp_all
  obtain ⟨rfl, rfl⟩ := trodVars_none hV
  obtain ⟨s, rfl, rfl, rfl, hs⟩ := ChangeMaps.open_string Try.underlying9 (hval 0 9 v0 rfl rfl) h0
  obtain ⟨a1, n1, c1, rfl⟩ := okWide_slice Try.underlying31 (hval 1 31 v1 rfl rfl)
  obtain ⟨fuel, hf⟩ := h1
  obtain ⟨l, hl, _, hls⟩ := open_edits hf
  clear hA0 hval0
  refine (walk s _ l W hs hl hls).mono fun e W' ⟨he, hg⟩ => ?_
  subst he
  exact ⟨_, rfl, law_post (tb := 4) (by kernel_rfl) (by kernel_rfl) rfl rfl Try.underlying4 hW' rfl rfl rfl hg⟩

theorem over : Rows.spotPutsRow.holds Try.pinned (OpenSpec.ofChange Rows.spotPutsSpec) :=
  OpenClaim.holds_of_wide 4 Try.f4 rfl rfl rfl rfl rfl rfl rfl ⟨rfl, rfl, rfl, rfl, rfl⟩ rfl rfl rfl rfl rfl (by kernel_rfl) Try.func4 (by kernel_rfl)
    (of_decide_eq_true (by kernel_rfl)) (by unfold Func.isWrapper; first | (rw [if_pos (by decide +kernel)]; kernel_rfl) | (rw [if_neg (by decide +kernel)]; exact ⟨rfl, rfl⟩))
    (fun os started H enc _ => lifted os started H enc)

theorem proved : Rows.SpotPutsSaid :=
  over
#print axioms proved
end Go.Proofs.Ytofbhdpcpoclaaa.spotPuts
