/- LexBlanks' walk: at every text and numbers the law returns true. -/
import Derived.Test.YtofbhdpcpoclaaaDoorRecs
import Derived.Test.YtofbhdpcpoclaaaDoorLexAnchor
import Derived.Test.YtofbhdpcpoclaaaDoorBlanksPlain
namespace Go.Proofs.YtofbhdpcpoclaaaDoor
open Go.RowKit

def intCells (k : Int) : List Value := [.int .i64 k]

theorem fun_getD (l : List Int) (k : Nat) (h : k < l.length) : l.getD k 0 = l[k] := by
  rw [List.getD_eq_getElem?_getD, List.getElem?_eq_getElem h, Option.getD_some]
theorem fun_getD0 (l : List Int) (k : Nat) (h : ¬ k < l.length) : l.getD k 0 = 0 := by
  rw [List.getD_eq_getElem?_getD, List.getElem?_eq_none (by omega), Option.getD_none]

set_option maxHeartbeats 1000000 in
set_option maxRecDepth 100000 in
theorem blanks_wide (s : ByteArray) (v : Value) (more : List Int) (w : World) (hs : s.size ≤ 9223372036854775807) (hl : more.length ≤ 9223372036854775807) (hv : Rec w.heap.size w v 1 intCells more) (hno : ¬ (s.size ≤ 1000 ∧ more.length ≤ 300)) :
    Calls Tryd.prog 6 #[.string s, v] w fun e w' => e = .returned (.bool true) ∧ Below w.heap.size w w' := by
  obtain ⟨ao, cap, rfl, hcap, hf⟩ := hv.form (fun _ => rfl)
  clear hf
  by_cases h3 : (1000 : Int) < (s.size : Int)
  · clear hno
    go_enter Tryd.func6, Tryd.ntmps6
    go_wp2_with (go_at_call 7; refine (anchor_any _).mono ?_; rintro e w1 ⟨rfl, hb1⟩)
    all_goals (go_ret; exact ⟨rfl, hb1⟩)
  · have h4 : (300 : Int) < (more.length : Int) := by omega
    have h5 : (s.size : Int) ≤ 1000 := by omega
    clear hno
    go_enter Tryd.func6, Tryd.ntmps6
    go_wp2_with (go_at_call 7; refine (anchor_any _).mono ?_; rintro e w1 ⟨rfl, hb1⟩)
    all_goals (go_ret; exact ⟨rfl, hb1⟩)

set_option maxHeartbeats 2000000 in
set_option maxRecDepth 100000 in
theorem blanks_any (s : ByteArray) (v : Value) (more : List Int) (w : World) (hs : s.size ≤ 1000) (hl : more.length ≤ 300) (hv : Rec w.heap.size w v 1 intCells more) (hk : ∀ k, (h : k < more.length) → -9223372036854775808 ≤ more[k] ∧ more[k] ≤ 9223372036854775807) :
    Calls Tryd.prog 6 #[.string s, v] w fun e w' => e = .returned (.bool true) ∧ Below w.heap.size w w' := by
  obtain ⟨ao, cap, rfl, hcap, hf⟩ := hv.form (fun _ => rfl)
  have h3 : (s.size : Int) ≤ 1000 := by omega
  have h4 : (more.length : Int) ≤ 300 := by omega
  have q1 : s.size ≤ 1099511627776 := by omega
  have d3 : decide ((1000 : Int) < (s.size : Int)) = false := decide_eq_false (by omega)
  have d4 : decide ((300 : Int) < (more.length : Int)) = false := decide_eq_false (by omega)
  have HK := Lib.hid hk
  have HF := Lib.hid hf
  clear hk hf
  go_enter Tryd.func6, Tryd.ntmps6
  go_wp2_with (first | (go_at_call 7; refine (anchor_any _).mono ?_; rintro e w1 ⟨rfl, hb1⟩) | (go_at_call 8; refine (lex_any s _ q1).mono ?_))
  rintro e w2 ⟨hb2, hm⟩
  have hb12 : Below w.heap.size w w2 := hb1.trans (hb2.mono hb1.size)
  have hz2 := hb12.size
  clear hb1 hb2
  cases hl : lexAll s.data.toList with
  | error x =>
    rw [hl] at hm
    subst hm
    have hne := (lexAll_fault hl).2
    obtain ⟨c, a⟩ := x
    simp only at hne
    have hne1 : ((c : Int) != 0) = true := by rw [bne_iff_ne]; omega
    clear hl hne
    go_wp2
    go_ret
    exact ⟨rfl, hb12.alloc hz2 _⟩
  | ok l =>
    rw [hl] at hm
    obtain ⟨v', rfl, hr⟩ := hm
    have hL := lexAll_laid hl
    have hcount := hL.count
    rw [← Lib.size_eq] at hcount
    have hl1 : l.length ≤ 1001 := by omega
    have hl0 := hL.some
    obtain ⟨m, hm, hal⟩ := blanks_all (fun i => more.getD i 0) hl hl1 (by rw [← Lib.size_eq]; exact hs)
    have hbl := builtF_len (fun i => more.getD i 0) 0 l
    have hwh := hL.whole
    rw [← Lib.size_eq] at hwh
    have hsz : (builtF (fun i => more.getD i 0) 0 l).length ≤ 20000 := by omega
    have HWH := Lib.hid hwh
    have HM := Lib.hid hm
    have HA := Lib.hid hal
    clear hl hL hm hal hbl hwh
    obtain ⟨ao', cap', rfl, hc', hf'⟩ := hr.form (fun _ => rfl)
    clear hf'
    go_wp2
    generalize hw3 : w2.alloc _ = w3
    have hb23 : Below w2.heap.size w2 w3 := by rw [← hw3]; exact (Below.refl _ _).alloc (Nat.le_refl _) _
    have hb13 : Below w.heap.size w w3 := hb12.trans (hb23.mono hz2)
    have hr1 := (hr.below hb23).mono hb23.size
    have hz3 := hb13.size
    clear hw3 hr hb23 hb12
    go_loopw [7, 35] (fun t i wr => ∃ (k : Nat) (y : ByteArray), k ≤ l.length ∧ i = .int .i64 k ∧ t = .string y ∧ y.data.toList = builtF (fun i => more.getD i 0) 0 (l.take k) ∧ Below w3.heap.size w3 wr) (fun _ i _ => l.length - (intOf i).toNat)
    case atStart => exact ⟨0, ⟨#[]⟩, Nat.zero_le _, rfl, rfl, rfl, Below.refl _ _⟩
    case round =>
      obtain ⟨k, y, hk, rfl, rfl, hy, hbl⟩ := hrel
      have hz := hbl.size
      by_cases hlt : k < l.length
      · obtain ⟨b, off, rfl, hb, hcell⟩ := hr1.cells (fun _ => rfl) (by omega)
        have hx0 := (hbl.cell (p := ⟨b, off + k * 4, none⟩) hb).trans (hcell k 0 _ hlt rfl)
        have hx1 := (hbl.cell (p := ⟨b, off + k * 4 + 1, none⟩) hb).trans (hcell k 1 _ hlt rfl)
        have hx2 := (hbl.cell (p := ⟨b, off + k * 4 + 2, none⟩) hb).trans (hcell k 2 _ hlt rfl)
        have hx3 := (hbl.cell (p := ⟨b, off + k * 4 + 3, none⟩) hb).trans (hcell k 3 _ hlt rfl)
        have hsn : builtF (fun i => more.getD i 0) 0 (l.take (k + 1)) = builtF (fun i => more.getD i 0) 0 (l.take k) ++ (insF (more.getD k 0) ++ (l[k].lead ++ l[k].text)) := by
          rw [List.take_succ_eq_append_getElem hlt, builtF_snoc, List.length_take, Nat.min_eq_left hk, Nat.zero_add]
        rw [← hy] at hsn
        have hys : y.size ≤ 20000 := by
          have h1 := (builtF_len (fun i => more.getD i 0) 0 (l.take k)).2
          rw [← wholeF_len, wholeF_take_len l k hk, ← hy, size_list, List.length_take] at h1
          have h2 := tokAt_mono l k l.length hk (Nat.le_refl _)
          rw [HWH.out] at h2
          omega
        have hts : tokLen l[k] ≤ 1000 := by
          have h2 := tokAt_mono l (k + 1) l.length hlt (Nat.le_refl _)
          rw [HWH.out, tokAt_succ l k hlt] at h2
          omega
        rw [tokLen] at hts
        generalize l[k] = t at hx0 hx1 hx2 hx3 hsn hts
        obtain ⟨c, x, z, q⟩ := t
        simp only at hx0 hx1 hx2 hx3 hsn hts
        obtain ⟨X, rfl, eX⟩ := bytes_of x
        obtain ⟨Z, rfl, eZ⟩ := bytes_of z
        rw [eX] at hx1
        rw [eZ] at hx2
        simp only [size_list] at hts
        have HS := Lib.hid hsn
        have hbl1 := hbl.alloc hz (.cells #[.int .i64 c, .string X, .string Z, .int .i64 q] 30)
        clear hcell eX eZ hy hsn
        by_cases hkm : k < more.length
        · have hI : (k : Int) < (more.length : Int) := by omega
          have hgd := fun_getD more k hkm
          have hkb := HK.out k hkm
          obtain ⟨b1, off1, rfl, hb1, hcell1⟩ := HF.out (by omega)
          have hm0 := (hbl1.cell (p := ⟨b1, off1 + k, none⟩) (by show b1 < _; omega)).trans ((hb13.cell (p := ⟨b1, off1 + k, none⟩) hb1).trans (by have := hcell1 k 0 _ hkm rfl; simpa using this))
          generalize more[k] = kv at hm0 hgd hkb
          have HG := Lib.hid hgd
          clear hgd hcell1
          by_cases e1 : kv.tmod 4 = 1
          · have t1 : (kv.tmod 4 == 1) = true := by rw [beq_iff_eq]; exact e1
            have hins : insF kv = [32, 9, 13, 10] := by unfold insF; rw [if_pos e1]
            have HI := Lib.hid hins
            clear hins e1
            go_wp2
            go_roundw
            case rel => exact ⟨k + 1, _, by omega, by go_num, rfl, by rw [HS.out, HG.out, HI.out]; simp, hbl1⟩
            case measure => simp [intOf]; omega
          · by_cases e2 : kv.tmod 4 = 2
            · have t1 : (kv.tmod 4 == 1) = false := by rw [← Bool.not_eq_true, beq_iff_eq]; exact e1
              have t2 : (kv.tmod 4 == 2) = true := by rw [beq_iff_eq]; exact e2
              have hins : insF kv = [10, 45, 45, 108, 101, 116, 32, 39, 120, 10] := by unfold insF; rw [if_neg e1]; rw [if_pos e2]
              have HI := Lib.hid hins
              clear hins e1 e2
              go_wp2
              go_roundw
              case rel => exact ⟨k + 1, _, by omega, by go_num, rfl, by rw [HS.out, HG.out, HI.out]; simp, hbl1⟩
              case measure => simp [intOf]; omega
            · by_cases e3 : kv.tmod 4 = 3
              · have t1 : (kv.tmod 4 == 1) = false := by rw [← Bool.not_eq_true, beq_iff_eq]; exact e1
                have t2 : (kv.tmod 4 == 2) = false := by rw [← Bool.not_eq_true, beq_iff_eq]; exact e2
                have t3 : (kv.tmod 4 == 3) = true := by rw [beq_iff_eq]; exact e3
                have hins : insF kv = [32, 45, 45, 32, 45, 45, 32, 40, 32, 10, 45, 45, 10] := by unfold insF; rw [if_neg e1]; rw [if_neg e2]; rw [if_pos e3]
                have HI := Lib.hid hins
                clear hins e1 e2 e3
                go_wp2
                go_roundw
                case rel => exact ⟨k + 1, _, by omega, by go_num, rfl, by rw [HS.out, HG.out, HI.out]; simp, hbl1⟩
                case measure => simp [intOf]; omega
              · have t1 : (kv.tmod 4 == 1) = false := by rw [← Bool.not_eq_true, beq_iff_eq]; exact e1
                have t2 : (kv.tmod 4 == 2) = false := by rw [← Bool.not_eq_true, beq_iff_eq]; exact e2
                have t3 : (kv.tmod 4 == 3) = false := by rw [← Bool.not_eq_true, beq_iff_eq]; exact e3
                have hins : insF kv = [] := by unfold insF; rw [if_neg e1]; rw [if_neg e2]; rw [if_neg e3]
                have HI := Lib.hid hins
                clear hins e1 e2 e3
                go_wp2
                go_roundw
                case rel => exact ⟨k + 1, _, by omega, by go_num, rfl, by rw [HS.out, HG.out, HI.out]; simp, hbl1⟩
                case measure => simp [intOf]; omega
        · have hI : decide ((k : Int) < (more.length : Int)) = false := decide_eq_false (by omega)
          have hgd := fun_getD0 more k hkm
          have HG := Lib.hid hgd
          clear hgd
          go_wp2
          go_roundw
          case rel => exact ⟨k + 1, _, by omega, by go_num, rfl, by rw [HS.out, HG.out, show insF 0 = [] by rfl]; simp, hbl1⟩
          case measure => simp [intOf]; omega
      · have hkl : k = l.length := by omega
        subst hkl
        rw [List.take_length] at hy
        have hys : y.size ≤ 20000 := by rw [← size_list, hy]; exact hsz
        have HY := Lib.hid hy
        clear hy
        have L1 := fun w => lex_any y w (by omega)
        rw [HY.out] at L1
        have H1 := Lib.hid L1
        clear L1
        go_wp2_with (go_at_call 8; refine (H1.out _).mono ?_)
        rintro e w4 ⟨hb4, hm⟩
        rw [HM.out] at hm
        obtain ⟨v2, rfl, hr2⟩ := hm
        have hL := lexAll_laid HM.out
        have hml := HA.out.length
        obtain ⟨ao2, cap2, rfl, hc2, _⟩ := hr2.formN (fun _ => rfl) hml
        go_wp2
        generalize hw5 : w4.alloc _ = w5
        have hb45 : Below w4.heap.size w4 w5 := by rw [← hw5]; exact (Below.refl _ _).alloc (Nat.le_refl _) _
        have hb35 : Below w3.heap.size w3 w5 := (hbl.trans (hb4.mono hz)).trans (hb45.mono (by have := hb4.size; omega))
        have hb05 : Below w.heap.size w w5 := hb13.trans (hb35.mono hz3)
        have hr3 := (hr2.below hb45).mono hb45.size
        have hr4 := (hr1.below hb35).mono hb35.size
        have hz5 := hb05.size
        clear hw5 hb4 hb45 hb35 hr2 hr1 hbl hb13
        go_loopw [85] (fun i wr => ∃ k : Nat, k ≤ l.length ∧ i = .int .i64 k ∧ Below w5.heap.size w5 wr) (fun i _ => l.length - (intOf i).toNat)
        case atStart => exact ⟨0, Nat.zero_le _, rfl, Below.refl _ _⟩
        case round =>
          obtain ⟨k, hk, rfl, hbl⟩ := hrel
          have hz := hbl.size
          by_cases hlt : k < l.length
          · have hlt2 : k < m.length := by omega
            obtain ⟨b, off, rfl, hb, hcell⟩ := hr3.cells (fun _ => rfl) (by omega)
            obtain ⟨b2, off2, rfl, hb2, hcell2⟩ := hr4.cells (fun _ => rfl) (by omega)
            have hx0 := (hbl.cell (p := ⟨b, off + k * 4, none⟩) hb).trans (hcell k 0 _ hlt2 rfl)
            have hx1 := (hbl.cell (p := ⟨b, off + k * 4 + 1, none⟩) hb).trans (hcell k 1 _ hlt2 rfl)
            have hx2 := (hbl.cell (p := ⟨b, off + k * 4 + 2, none⟩) hb).trans (hcell k 2 _ hlt2 rfl)
            have hx3 := (hbl.cell (p := ⟨b, off + k * 4 + 3, none⟩) hb).trans (hcell k 3 _ hlt2 rfl)
            have hy0 := (hbl.cell (p := ⟨b2, off2 + k * 4, none⟩) hb2).trans (hcell2 k 0 _ hlt rfl)
            have hy2 := (hbl.cell (p := ⟨b2, off2 + k * 4 + 2, none⟩) hb2).trans (hcell2 k 2 _ hlt rfl)
            have hy3 := (hbl.cell (p := ⟨b2, off2 + k * 4 + 3, none⟩) hb2).trans (hcell2 k 3 _ hlt rfl)
            obtain ⟨a1, a2, a3⟩ := HA.out.at k hlt2 hlt
            rw [← a1] at hy0
            rw [← a2] at hy2
            generalize l[k].place = pl at hy3 a3
            generalize m[k] = t at hx0 hx1 hx2 hx3 hy0 hy2 a3
            obtain ⟨c, x, z, q⟩ := t
            simp only at hx0 hx1 hx2 hx3 hy0 hy2 a3
            generalize ByteArray.mk x.toArray = X at hx1
            generalize ByteArray.mk z.toArray = Z at hx2 hy2
            have hal := (Below.refl wr.heap.size wr).alloc (Nat.le_refl _) (.cells #[.int .i64 c, .string X, .string Z, .int .i64 q] 30)
            have hy0' := cell_later hal hy0
            have hy2' := cell_later hal hy2
            have hy3' := cell_later hal hy3
            have dp : decide ((q : Int) < (pl : Int)) = false := decide_eq_false (by omega)
            clear hcell hcell2 hy0 hy2 hy3 hal a1 a2
            go_wp2
            go_quiet (fail)
            go_wp2
            go_roundw
            case rel => exact ⟨k + 1, by omega, by go_num, below_drewN (hbl.alloc hz _) _⟩
            case measure => simp [intOf]; omega
          · have hkl : k = l.length := by omega
            subst hkl
            have hr5 := (hr3.below hbl).mono hz
            have hmw := hL.whole_eq
            have hmc : m.length ≤ 1099511627776 := by omega
            have hmt : tokAt m m.length ≤ 1099511627776 := by rw [hL.whole]; omega
            have HMW := Lib.hid hmw
            clear hmw hL
            go_wp2_with (go_at_call 10; refine (whole_any _ m _ hmc hmt hr5).mono ?_)
            rintro e w6 ⟨rfl, hb6⟩
            rw [HMW.out, ← HY.out]
            have hse : ByteArray.mk y.data.toList.toArray = y := by cases y; simp
            rw [hse]
            go_wp2
            go_ret
            exact ⟨rfl, (hb05.trans (hbl.mono hz5)).trans (hb6.mono (by omega))⟩
end Go.Proofs.YtofbhdpcpoclaaaDoor
