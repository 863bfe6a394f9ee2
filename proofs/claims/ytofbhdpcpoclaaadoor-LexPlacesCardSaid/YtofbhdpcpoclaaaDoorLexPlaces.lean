/- LexPlaces' walk: at every text the law returns true. -/
import Derived.Test.YtofbhdpcpoclaaaDoorLexAnchor
import Derived.Test.YtofbhdpcpoclaaaDoorLexFacts
namespace Go.Proofs.YtofbhdpcpoclaaaDoor
open Go.RowKit

theorem piece_eq {s y : ByteArray} {q : Nat} (h : (s.data.toList.drop q).take y.data.toList.length = y.data.toList) : s.extract q (q + y.size) = y := by
  refine bytes_ext ?_
  rw [extract_list, List.drop_take, Nat.add_sub_cancel_left, ← size_list]
  exact h

theorem empty_of {y : ByteArray} (h : y.data.toList = []) : y = ⟨#[]⟩ := bytes_ext h

set_option maxHeartbeats 1000000 in
set_option maxRecDepth 100000 in
theorem places_any (s : ByteArray) (w : World) (hs : s.size ≤ maxLen) :
    Calls Tryd.prog 3 #[.string s] w fun e w' => e = .returned (.bool true) ∧ Below w.heap.size w w' := by
  unfold maxLen at hs
  by_cases h3 : (3000 : Int) < (s.size : Int)
  · go_enter Tryd.func3, Tryd.ntmps3
    go_wp2_with (go_at_call 7; refine (anchor_any _).mono ?_; rintro e w1 ⟨rfl, hb1⟩)
    go_ret
    exact ⟨rfl, hb1⟩
  · have h4 : (s.size : Int) ≤ 3000 := by omega
    have q1 : s.size ≤ 1099511627776 := by omega
    go_enter Tryd.func3, Tryd.ntmps3
    go_wp2_with (first | (go_at_call 7; refine (anchor_any _).mono ?_; rintro e w1 ⟨rfl, hb1⟩) | (go_at_call 8; refine (lex_any s _ q1).mono ?_))
    rintro e w2 ⟨hb2, hm⟩
    have hb12 : Below w.heap.size w w2 := hb1.trans (hb2.mono hb1.size)
    clear hb1 hb2
    cases hl : lexAll s.data.toList with
    | error x =>
      rw [hl] at hm
      subst hm
      obtain ⟨hx, hc⟩ := lexAll_fault hl
      rw [← Lib.size_eq] at hx
      obtain ⟨c, a⟩ := x
      simp only at hx hc
      have hne : ((c : Int) == 0) = false := by rw [← Bool.not_eq_true, beq_iff_eq]; omega
      have hle : (a : Int) ≤ ↑s.size := by omega
      clear hc hl
      go_wp2
      go_ret
      exact ⟨rfl, (hb12.alloc hb12.size _)⟩
    | ok l =>
      rw [hl] at hm
      obtain ⟨v', rfl, hr⟩ := hm
      have hL := lexAll_laid hl
      clear hl
      obtain ⟨ao', cap', rfl, hc', hf'⟩ := hr.form (fun _ => rfl)
      have hb3 := hb12.alloc hb12.size (.cells #[.int .i64 0, .int .i64 0] 26)
      have hsz := hb12.size
      obtain ⟨b', off', rfl, hB, hcell⟩ := hf' hL.some
      have f0 : (w2.alloc (.cells #[.int .i64 0, .int .i64 0] 26)).cell? ⟨w2.heap.size, 0, none⟩ = some (.int .i64 0) := by rw [Lib.cell_of_heap (heap_alloc_new _ _)]; rfl
      clear hf' hr
      have HC := Lib.hid hcell
      have HL := Lib.hid hL
      clear hcell hL
      have hcap : l.length ≤ 1099511627776 := by have := HL.out.count; rw [← Lib.size_eq] at this; omega
      go_wp2
      go_loopw [5, 38] (fun a i wr => ∃ k : Nat, k ≤ l.length ∧ i = .int .i64 k ∧ a = .int .i64 (tokAt l k) ∧ Below (w2.heap.size + 1) (w2.alloc (.cells #[.int .i64 0, .int .i64 0] 26)) wr) (fun _ i _ => l.length - (intOf i).toNat)
      case atStart => exact ⟨0, Nat.zero_le _, rfl, by rw [tokAt_zero]; rfl, by simp [Below.refl]⟩
      case round =>
        obtain ⟨k, hk, rfl, rfl, hbl⟩ := hrel
        have hz := hbl.size
        have hz1 : w2.heap.size < wr.heap.size := by simp at hz; omega
        have hbw : Below w.heap.size w wr := hb3.trans (hbl.mono (by omega))
        have hin := HL.out.inside k hk
        rw [← Lib.size_eq] at hin
        by_cases hlt : k < l.length
        · have hin1 := HL.out.inside (k + 1) hlt
          rw [← Lib.size_eq, tokAt_succ l k hlt, tokLen] at hin1
          have up : ∀ j u, (tokCells l[k])[j]? = some u → wr.cell? ⟨b', off' + k * 4 + j, none⟩ = some u := fun j u h => (hbl.cell (p := ⟨b', off' + k * 4 + j, none⟩) (by show b' < _; omega)).trans ((cell_later ((Below.refl w2.heap.size w2).alloc (Nat.le_refl _) _) (HC.out k j u hlt h)))
          have hp := HL.out.place k hlt
          have hla := HL.out.last k hlt
          have hem := HL.out.empty k hlt
          have htx := HL.out.text k hlt
          have hsu := tokAt_succ l k hlt
          rw [tokLen] at hsu
          generalize l[k] = t at hin1 up hp hla hem htx hsu
          generalize tokAt l k = p at hin hin1 hp htx hsu
          obtain ⟨c, x, y, q⟩ := t
          simp only at hin1 hp hla hem htx hsu
          have hx0 := up 0 _ rfl
          have hx1 := up 1 _ rfl
          have hx2 := up 2 _ rfl
          have hx3 := up 3 _ rfl
          simp only [Nat.add_zero] at hx0
          clear up
          obtain ⟨X, rfl⟩ : ∃ X : ByteArray, X.data.toList = x := ⟨⟨x.toArray⟩, rfl⟩
          obtain ⟨Y, rfl⟩ : ∃ Y : ByteArray, Y.data.toList = y := ⟨⟨y.toArray⟩, rfl⟩
          have eX : ByteArray.mk X.data.toList.toArray = X := by cases X; simp
          have eY : ByteArray.mk Y.data.toList.toArray = Y := by cases Y; simp
          simp only [eX, eY] at hx1 hx2
          simp only [size_list] at hin1 hp htx hsu
          rw [Nat.zero_add] at hp
          have hpe := piece_eq htx
          clear htx eX eY
          subst hp
          have e3 : ((p + X.size : Nat) : Int) = (p : Int) + (X.size : Int) := by omega
          rw [e3] at hx3
          have HS := Lib.hid hsu
          have g1 : (p : Int) + (X.size : Int) + (Y.size : Int) ≤ (s.size : Int) := by omega
          have g2 : ((p : Int) + (X.size : Int)).toNat = p + X.size := by omega
          have g3 : ((p : Int) + (X.size : Int) + (Y.size : Int)).toNat = p + X.size + Y.size := by omega
          have HE := Lib.hid hpe
          clear hsu hin hin1 e3 hpe
          by_cases hkl : k = l.length - 1
          · have hc5 := hla.2 hkl
            subst hc5
            have hY := empty_of (hem.2 rfl)
            subst hY
            have t1 : ((k : Int) == (l.length : Int) - 1) = true := by rw [beq_iff_eq]; omega
            clear hla hem hkl
            have w1' : IntKind.i64.wrap ((l.length : Int) - 1) = (l.length : Int) - 1 := IntWalk.i64_in _ (by omega)
            go_wp2
            go_quiet (fail)
            go_wp2
            go_roundw
            case rel => exact ⟨k + 1, by omega, by go_num, by rw [HS.out]; go_num, below_drewN (hbl.alloc (by omega) _) _⟩
            case measure => simp [intOf]; omega
          · have hc5 : ((c : Int) == 5) = false := by rw [← Bool.not_eq_true, beq_iff_eq]; intro q; exact hkl (hla.1 (by omega))
            have hY : Y.toList.isEmpty = false := by
              rw [isEmpty_size]
              refine decide_eq_false fun q => hkl (hla.1 (hem.1 ?_))
              rw [← List.length_eq_zero_iff, size_list]; exact q
            have t1 : ((k : Int) == (l.length : Int) - 1) = false := by rw [← Bool.not_eq_true, beq_iff_eq]; omega
            have hpe := HE.out
            clear hla hem hkl
            have w1' : IntKind.i64.wrap ((l.length : Int) - 1) = (l.length : Int) - 1 := IntWalk.i64_in _ (by omega)
            have w2' : IntKind.i64.wrap ((p : Int) + (X.size : Int) + (Y.size : Int)) = (p : Int) + (X.size : Int) + (Y.size : Int) := IntWalk.i64_in _ (by omega)
            go_wp2
            go_quiet (fail)
            go_wp2
            go_roundw
            case rel => exact ⟨k + 1, by omega, by go_num, by rw [HS.out]; go_num, below_drewN (hbl.alloc (by omega) _) _⟩
            case measure => simp [intOf]; omega
        · have hkl : k = l.length := by omega
          subst hkl
          have hw := HL.out.whole
          rw [← Lib.size_eq] at hw
          rw [hw]
          have t2 : ((s.size : Int) == (s.size : Int)) = true := by simp
          clear hw
          go_wp2
          go_ret
          exact ⟨rfl, hbw⟩
end Go.Proofs.YtofbhdpcpoclaaaDoor
