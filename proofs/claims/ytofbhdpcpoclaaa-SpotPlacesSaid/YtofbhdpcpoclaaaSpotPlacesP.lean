/- SpotPlaces holds: at every text, place and spot the law returns true. No condition. -/
import Derived.Test.YtofbhdpcpoclaaaSpotPlaces
import Derived.Lib.SmallJoins
namespace Go.Proofs.Ytofbhdpcpoclaaa.spotPlaces
open Go.ChangeShapes Go.WideShapes Go.ChangeAt Go.RowKit
set_option linter.unusedVariables false

theorem cells2 : Try.prog.cellsOf 54 = 2 := by kernel_rfl
theorem own : ownKnob Try.prog.godebug = none := by kernel_rfl

theorem walk (s : ByteArray) (n L B : Int) (w : World) (hs : s.size ≤ maxLen) (hn0 : -9223372036854775808 ≤ n) (hn : n ≤ 9223372036854775807) (hL : L ≤ 9223372036854775807) (hB0 : -9223372036854775808 ≤ B) (hB : B ≤ 9223372036854775807) :
    Calls Try.prog 7 #[.string s, .int .i64 n, .agg #[.int .i64 L, .int .i64 B]] w fun e w' => e = .returned (.bool true) ∧ Below w.heap.size w w' := by
  by_cases h3 : (300 : Int) < (s.size : Int)
  · exact wide s n L B w (by unfold maxLen at hs; omega) h3
  · by_cases h1 : n < 0
    · exact outside_neg s n L B w (by omega) h1 hL hB0 hB
    · by_cases h2 : (s.size : Int) < n
      · exact outside_big s n L B w (by omega) (by omega) h2 hL hB0 hB
      · obtain ⟨m, rfl⟩ := Int.eq_ofNat_of_zero_le (by omega : 0 ≤ n)
        exact inside s m L B w (by omega) (by omega) hL hB0 hB

theorem bounds {n : Int} (h : (Lit.int .i64 n).wf = true) : -9223372036854775808 ≤ n ∧ n ≤ 9223372036854775807 := by
  simpa [Lit.wf, IntKind.min, IntKind.max, IntKind.signed, IntKind.bits] using h

set_option maxRecDepth 100000 in
theorem lifted (os : Os) (started : os.Started) (H : Type) (enc : TypeId × Value → H) :
    ReturnsInHanded {} Try.checked os 7 .any (Rows.spotPlacesSpec.pre6 enc Try.prog Try.f7 Rows.spotPlacesRow.domain false) (Rows.spotPlacesSpec.post enc Try.prog Try.f7 false true false false) := by
  refine returnsInHanded_of_change (C := Try.checked) own started (by kernel_rfl) Try.func7
    (ChangeSpec.witness6 (enc := enc) (C := Try.checked) false ⟨#[], #[.string ByteArray.empty, .int .i64 0, .agg #[.int .i64 0, .int .i64 0]], []⟩ 8 (by kernel_rfl) (by kernel_rfl) (by kernel_rfl) (by kernel_rfl)) ?_
  intro W base args ds gs before hval0 hW hcnd _
  have hval : ∀ (j : Nat) t v, Try.f7.params[j]? = some t → args[j]? = some v → Value.okWide Try.prog W .any base t v := hval0
  have hW' := hW
  obtain ⟨p, q, hA0, hV, rfl, hfz, hnd⟩ := hW
  have hA : DataW.TrodAll enc Try.prog W 0 (fun _ => true) true Try.f7.params.toList args.toList ds p := hA0
  rw [Try.params7] at hA hval
  obtain ⟨v0, vs0, d0, ds0, p0, q0, hargs, rfl, rfl, h0, r0⟩ := trodAll_cons hA
  obtain ⟨v1, vs1, d1, ds1, p1, q1, rfl, rfl, rfl, h1, r1⟩ := trodAll_cons r0
  obtain ⟨v2, vs2, d2, ds2, p2, q2, rfl, rfl, rfl, h2, r2⟩ := trodAll_cons r1
  obtain ⟨rfl, rfl, rfl⟩ := trodAll_nil r2
  obtain rfl : args = #[v0, v1, v2] := by cases args; simp_all
  obtain ⟨rfl, rfl⟩ := trodVars_none hV
  obtain ⟨s, rfl, rfl, rfl, hs⟩ := ChangeMaps.open_string Try.underlying9 (hval 0 9 v0 rfl rfl) h0
  obtain ⟨n, rfl, rfl, rfl, wn⟩ := open_int Try.underlying3 (hval 1 3 v1 rfl rfl) h1
  obtain ⟨c0, c1, y0, y1, m, rfl, rfl, rfl, hy0, hy1⟩ := Joins.open_agg2 Try.underlying54 (by kernel_rfl) cells2 (hval 2 54 v2 rfl rfl) h2
  obtain ⟨L, e0, _, wl⟩ := DataW.trod_int Try.underlying3 hy0
  obtain ⟨B, e1, _, wb⟩ := DataW.trod_int Try.underlying3 hy1
  simp only [List.cons.injEq, and_true] at e0 e1
  subst e0 e1
  clear hA0 hval0
  refine (walk s n L B W hs (bounds wn).1 (bounds wn).2 (bounds wl).2 (bounds wb).1 (bounds wb).2).mono fun e W' ⟨he, hg⟩ => ?_
  subst he
  exact ⟨_, rfl, law_post (tb := 4) (by kernel_rfl) (by kernel_rfl) rfl rfl Try.underlying4 hW' rfl rfl rfl hg⟩

theorem over : Rows.spotPlacesRow.holds Try.pinned (OpenSpec.ofChange Rows.spotPlacesSpec) :=
  OpenClaim.holds_of_wide 7 Try.f7 rfl rfl rfl rfl rfl rfl rfl ⟨rfl, rfl, rfl, rfl, rfl⟩ rfl rfl rfl rfl rfl (by kernel_rfl) Try.func7 (by kernel_rfl)
    (of_decide_eq_true (by kernel_rfl)) (by unfold Func.isWrapper; first | (rw [if_pos (by decide +kernel)]; kernel_rfl) | (rw [if_neg (by decide +kernel)]; exact ⟨rfl, rfl⟩))
    (fun os started H enc _ => lifted os started H enc)

theorem proved : Rows.SpotPlacesSaid :=
  over
#print axioms proved
end Go.Proofs.Ytofbhdpcpoclaaa.spotPlaces

