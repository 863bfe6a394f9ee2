/- SpotLines holds: at every text and number the law returns true. No condition. -/
import Derived.Test.YtofbhdpcpoclaaaLinesR
import Derived.Test.YtofbhdpcpoclaaaLaw
namespace Go.Proofs.Ytofbhdpcpoclaaa.spotLines
open Go.ChangeShapes Go.WideShapes Go.ChangeAt Go.RowKit
set_option linter.unusedVariables false

set_option maxHeartbeats 1000000 in
set_option maxRecDepth 100000 in
theorem wide (s : ByteArray) (n : Int) (w : World) (hs : s.size ≤ 9223372036854775807) (h3 : (300 : Int) < (s.size : Int)) :
    Calls Try.prog 6 #[.string s, .int .i64 n] w fun e w' => e = .returned (.bool true) ∧ Below w.heap.size w w' := by
  go_enter Try.func6, Try.ntmps6
  go_wp2_with (go_at_call 8; refine (anchor_any _).mono ?_; rintro e w1 ⟨rfl, hb1⟩)
  all_goals (go_ret; exact ⟨rfl, hb1⟩)

set_option maxHeartbeats 1000000 in
set_option maxRecDepth 100000 in
theorem small (s : ByteArray) (n : Int) (w : World) (h3 : (s.size : Int) ≤ 300) (hn : n ≤ 9223372036854775807) (hn0 : -9223372036854775808 ≤ n) :
    Calls Try.prog 6 #[.string s, .int .i64 n] w fun e w' => e = .returned (.bool true) ∧ Below w.heap.size w w' := by
  have q1 : s.size ≤ 1099511627776 := by omega
  go_enter Try.func6, Try.ntmps6
  go_wp2_with (first | (go_at_call 8; refine (anchor_any _).mono ?_; rintro e w1 ⟨rfl, hb1⟩) | (go_at_call 16; refine (refLines_any s _ q1).mono ?_))
  rintro e w2 ⟨v2, bl, rfl, hr, hbl, hlen, hb2⟩
  obtain ⟨a2, cap2, rfl, hc2, _⟩ := hr.form (fun _ => rfl)
  have hb12 := hb1.trans (hb2.mono hb1.size)
  have hz12 := hb12.size
  have HBL := Lib.hid hbl
  have hlines : (lines s.data.toList).length = bl.length := by rw [← hbl, List.length_map]
  have HLN := Lib.hid hlines
  clear hbl hb1 hb2 hlines
  go_wp2
  go_loopw [21] (fun ii wr => ∃ k : Nat, k ≤ bl.length ∧ ii = .int .i64 k ∧ Below w2.heap.size w2 wr) (fun ii _ => bl.length - (intOf ii).toNat)
  case atStart => exact ⟨0, Nat.zero_le _, rfl, Below.refl _ _⟩
  case round =>
    obtain ⟨k, hk, rfl, hbl⟩ := hrel
    have hz := hbl.size
    by_cases hlt : k < bl.length
    · obtain ⟨b, off, rfl, hb, hcell⟩ := hr.cells (fun _ => rfl) (by omega)
      have hx := (hbl.cell (p := ⟨b, off + k, none⟩) hb).trans (by have := hcell k 0 _ hlt rfl; simpa using this)
      have hget : (lines s.data.toList)[k]? = some (bl[k]).data.toList := by
        rw [← HBL.out, List.getElem?_map, List.getElem?_eq_getElem hlt]
        rfl
      generalize bl[k] = want at hx hget
      have hline := Lib.hid (fun w => line_some s k want.data.toList w q1 (by omega) hget)
      clear hcell hget
      go_wp2_with (go_at_call 17; refine (hline.out _).mono ?_)
      rintro e w3 ⟨⟨t, rfl, ht⟩, hb3⟩
      obtain rfl : t = want := bytes_ext ht
      clear ht hx
      go_wp2
      go_roundw
      case rel => exact ⟨k + 1, by omega, by go_num, hbl.trans (hb3.mono hz)⟩
      case measure => simp [intOf]; omega
    · have hkl : k = bl.length := by omega
      have hb0 : Below w.heap.size w wr := hb12.trans (hbl.mono hz12)
      by_cases hin : 1 ≤ n ∧ n ≤ bl.length
      · obtain ⟨n1, n2⟩ := hin
        obtain ⟨m, rfl⟩ : ∃ m : Nat, n = m + 1 := ⟨(n - 1).toNat, by omega⟩
        have hm : m < bl.length := by omega
        obtain ⟨b, off, rfl, hb, hcell⟩ := hr.cells (fun _ => rfl) (by omega)
        have hx := (hbl.cell (p := ⟨b, off + m, none⟩) hb).trans (by have := hcell m 0 _ hm rfl; simpa using this)
        have hget : (lines s.data.toList)[m]? = some (bl[m]).data.toList := by
          rw [← HBL.out, List.getElem?_map, List.getElem?_eq_getElem hm]
          rfl
        generalize bl[m] = want at hx hget
        have hline := Lib.hid (fun w => line_some s m want.data.toList w q1 (by omega) hget)
        have d1 : decide ((m : Int) + 1 < 1) = false := decide_eq_false (by omega)
        have d2 : decide ((bl.length : Int) < (m : Int) + 1) = false := decide_eq_false (by omega)
        clear hcell hget
        go_wp2_with (go_at_call 17; refine (hline.out _).mono ?_)
        rintro e w3 ⟨⟨t, rfl, ht⟩, hb3⟩
        obtain rfl : t = want := bytes_ext ht
        have hx3 := cell_later hb3 hx
        clear ht hx
        go_wp2
        go_ret
        exact ⟨rfl, hb0.trans (hb3.mono (by omega))⟩
      · have hout : n < 1 ∨ (lines s.data.toList).length < n := by rw [HLN.out]; omega
        have hline := Lib.hid (fun w => line_none s n w q1 hn hout)
        by_cases hn1 : n < 1
        · clear hin hout
          go_wp2_with (go_at_call 17; refine (hline.out _).mono ?_; rintro e w3 ⟨rfl, rfl⟩)
          go_ret
          exact ⟨rfl, hb0⟩
        · have hn2 : (bl.length : Int) < n := by omega
          have d1 : decide (n < 1) = false := decide_eq_false (by omega)
          clear hin hout
          go_wp2_with (go_at_call 17; refine (hline.out _).mono ?_; rintro e w3 ⟨rfl, rfl⟩)
          go_ret
          exact ⟨rfl, hb0⟩

theorem own : ownKnob Try.prog.godebug = none := by kernel_rfl

theorem walk (s : ByteArray) (n : Int) (w : World) (hs : s.size ≤ maxLen) (hn0 : -9223372036854775808 ≤ n) (hn : n ≤ 9223372036854775807) :
    Calls Try.prog 6 #[.string s, .int .i64 n] w fun e w' => e = .returned (.bool true) ∧ Below w.heap.size w w' := by
  by_cases h3 : (300 : Int) < (s.size : Int)
  · exact wide s n w (by unfold maxLen at hs; omega) h3
  · exact small s n w (by omega) hn hn0

set_option maxRecDepth 100000 in
theorem lifted (os : Os) (started : os.Started) (H : Type) (enc : TypeId × Value → H) :
    ReturnsInHanded {} Try.checked os 6 .any (Rows.spotLinesSpec.pre6 enc Try.prog Try.f6 Rows.spotLinesRow.domain false) (Rows.spotLinesSpec.post enc Try.prog Try.f6 false true false false) := by
  refine returnsInHanded_of_change (C := Try.checked) own started (by kernel_rfl) Try.func6
    (ChangeSpec.witness6 (enc := enc) (C := Try.checked) false ⟨#[], #[.string ByteArray.empty, .int .i64 0], []⟩ 8 (by kernel_rfl) (by kernel_rfl) (by kernel_rfl) (by kernel_rfl)) ?_
  intro W base args ds gs before hval0 hW hcnd _
  have hval : ∀ (j : Nat) t v, Try.f6.params[j]? = some t → args[j]? = some v → Value.okWide Try.prog W .any base t v := hval0
  have hW' := hW
  obtain ⟨p, q, hA0, hV, rfl, hfz, hnd⟩ := hW
  have hA : DataW.TrodAll enc Try.prog W 0 (fun _ => true) true Try.f6.params.toList args.toList ds p := hA0
  rw [Try.params6] at hA hval
  obtain ⟨v0, vs0, d0, ds0, p0, q0, hargs, rfl, rfl, h0, r0⟩ := trodAll_cons hA
  obtain ⟨v1, vs1, d1, ds1, p1, q1, rfl, rfl, rfl, h1, r1⟩ := trodAll_cons r0
  obtain ⟨rfl, rfl, rfl⟩ := trodAll_nil r1
  obtain rfl : args = #[v0, v1] := by cases args; simp_all
  obtain ⟨rfl, rfl⟩ := trodVars_none hV
  obtain ⟨s, rfl, rfl, rfl, hs⟩ := ChangeMaps.open_string Try.underlying9 (hval 0 9 v0 rfl rfl) h0
  obtain ⟨n, rfl, rfl, rfl, wn⟩ := open_int Try.underlying3 (hval 1 3 v1 rfl rfl) h1
  have hn : -9223372036854775808 ≤ n ∧ n ≤ 9223372036854775807 := by simpa [Lit.wf, IntKind.min, IntKind.max, IntKind.signed, IntKind.bits] using wn
  clear hA0 hval0
  refine (walk s n W hs hn.1 hn.2).mono fun e W' ⟨he, hg⟩ => ?_
  subst he
  exact ⟨_, rfl, law_post (tb := 4) (by kernel_rfl) (by kernel_rfl) rfl rfl Try.underlying4 hW' rfl rfl rfl hg⟩

theorem over : Rows.spotLinesRow.holds Try.pinned (OpenSpec.ofChange Rows.spotLinesSpec) :=
  OpenClaim.holds_of_wide 6 Try.f6 rfl rfl rfl rfl rfl rfl rfl ⟨rfl, rfl, rfl, rfl, rfl⟩ rfl rfl rfl rfl rfl (by kernel_rfl) Try.func6 (by kernel_rfl)
    (of_decide_eq_true (by kernel_rfl)) (by unfold Func.isWrapper; first | (rw [if_pos (by decide +kernel)]; kernel_rfl) | (rw [if_neg (by decide +kernel)]; exact ⟨rfl, rfl⟩))
    (fun os started H enc _ => lifted os started H enc)

theorem proved : Rows.SpotLinesSaid :=
  over
#print axioms proved
end Go.Proofs.Ytofbhdpcpoclaaa.spotLines

