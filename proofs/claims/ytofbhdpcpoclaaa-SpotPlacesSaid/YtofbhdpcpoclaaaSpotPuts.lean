/- SpotPuts' walk: at any text and edits it returns true. No condition. -/
import Derived.Test.YtofbhdpcpoclaaaSpotR2
namespace Go.Proofs.Ytofbhdpcpoclaaa
open Go.RowKit

/-- What a walk reads of a slice of records whose number is known by another name. -/
theorem Rec.formN {α : Type} {B : Nat} {w : World} {v : Value} {sz n : Nat} {f : α → List Value} {l : List α} (h : Rec B w v sz f l) (hf : ∀ x, (f x).length = sz) (hn : l.length = n) :
    ∃ ao cap, v = .slice ao n cap ∧ n ≤ cap ∧ (0 < n → ∃ b off, ao = some ⟨b, off, none⟩ ∧ b < B ∧
      ∀ k j u, (hk : k < l.length) → (f l[k])[j]? = some u → w.cell? ⟨b, off + k * sz + j, none⟩ = some u) := by
  subst hn
  exact h.form hf

/-- Its cells. -/
theorem Rec.cells {α : Type} {B : Nat} {w : World} {ao : Option Addr} {n cap sz : Nat} {f : α → List Value} {l : List α} (h : Rec B w (.slice ao n cap) sz f l) (hf : ∀ x, (f x).length = sz) (h0 : 0 < l.length) :
    ∃ b off, ao = some ⟨b, off, none⟩ ∧ b < B ∧ ∀ k j u, (hk : k < l.length) → (f l[k])[j]? = some u → w.cell? ⟨b, off + k * sz + j, none⟩ = some u := by
  obtain ⟨ao', cap', hv, _, hc⟩ := h.form hf
  injection hv with q1 q2 q3
  subst q1
  exact hc h0

theorem edits_no (v : Value) (l : List Edit) (w : World) (hv : Rec w.heap.size w v 2 editCells l) (hls : ∀ k, (h : k < l.length) → l[k].2.size ≤ maxLen) (hno : ¬ (l.length ≤ 20 ∧ ∀ k, (h : k < l.length) → l[k].2.size ≤ 200)) :
    Calls Try.prog 10 #[v] w fun e w' => e = .returned (.tuple #[.slice none 0 0, .bool false]) ∧ Below w.heap.size w w' := by
  by_cases h : l.length ≤ 20
  · by_cases h2 : ∃ n, ∃ hn : n < l.length, 200 < (l[n]).2.size
    · obtain ⟨n, hn, h3⟩ := h2
      exact edits_wide v l w hv h n hn h3 hls
    · exact absurd ⟨h, fun k hk => by
        rcases Nat.lt_or_ge 200 (l[k]).2.size with q | q
        · exact absurd ⟨k, hk, q⟩ h2
        · exact q⟩ hno
  · exact edits_long v l w hv (by omega)

set_option maxHeartbeats 1000000 in
set_option maxRecDepth 100000 in
theorem puts_no (s : ByteArray) (v : Value) (l : List Edit) (w : World) (hs : s.size ≤ 9223372036854775807) (hv : Rec w.heap.size w v 2 editCells l) (hls : ∀ k, (h : k < l.length) → l[k].2.size ≤ maxLen)
    (hno : ¬ (l.length ≤ 20 ∧ ∀ k, (h : k < l.length) → l[k].2.size ≤ 200)) :
    Calls Try.prog 4 #[.string s, v] w fun e w' => e = .returned (.bool true) ∧ Below w.heap.size w w' := by
  by_cases h3 : 300 < s.size
  all_goals
    go_enter Try.func4, Try.ntmps4
    go_wp2_with (first | (go_at_call 8; refine (anchor_any _).mono ?_; rintro e w1 ⟨rfl, hb1⟩) | (go_at_call 10; refine (edits_no v l _ ((hv.below hb1).mono hb1.size) hls hno).mono ?_; rintro e w2 ⟨rfl, hb2⟩))
    all_goals (go_ret; exact ⟨rfl, hb1.trans (hb2.mono hb1.size)⟩)

set_option maxHeartbeats 1000000 in
set_option maxRecDepth 100000 in
theorem puts_wide (s : ByteArray) (v : Value) (l : List Edit) (w : World) (hs : s.size ≤ 9223372036854775807) (hv : Rec w.heap.size w v 2 editCells l) (h20 : l.length ≤ 20) (h200 : ∀ k, (h : k < l.length) → l[k].2.size ≤ 200) (h30 : 300 < s.size) :
    Calls Try.prog 4 #[.string s, v] w fun e w' => e = .returned (.bool true) ∧ Below w.heap.size w w' := by
  have h3 : (300 : Int) < (s.size : Int) := by omega
  go_enter Try.func4, Try.ntmps4
  go_wp2_with (first | (go_at_call 8; refine (anchor_any _).mono ?_; rintro e w1 ⟨rfl, hb1⟩) | (go_at_call 10; refine (edits_yes v l _ ((hv.below hb1).mono hb1.size) h20 h200).mono ?_; rintro e w2 ⟨v2, rfl, hr2, hb2⟩))
  all_goals (go_ret; exact ⟨rfl, hb1.trans (hb2.mono hb1.size)⟩)

set_option maxHeartbeats 1000000 in
set_option maxRecDepth 100000 in
theorem puts_wrong (s : ByteArray) (v : Value) (l : List Edit) (w : World) (hv : Rec w.heap.size w v 2 editCells l) (h20 : l.length ≤ 20) (h200 : ∀ k, (h : k < l.length) → l[k].2.size ≤ 200) (h3 : s.size ≤ 300)
    (hR : rightB s.size 0 s.size l = false) :
    Calls Try.prog 4 #[.string s, v] w fun e w' => e = .returned (.bool true) ∧ Below w.heap.size w w' := by
  have HR := Lib.hid hR
  have q1 : s.size ≤ 1099511627776 := by omega
  have q2 : l.length ≤ 1099511627776 := by omega
  have q3 : ∀ k, (h : k < l.length) → l[k].2.size ≤ 1099511627776 := fun k h => by have := h200 k h; omega
  clear hR
  go_enter Try.func4, Try.ntmps4
  go_wp2_with (first | (go_at_call 8; refine (anchor_any _).mono ?_; rintro e w1 ⟨rfl, hb1⟩) | (go_at_call 10; refine (edits_yes v l _ ((hv.below hb1).mono hb1.size) h20 h200).mono ?_; rintro e w2 ⟨v2, rfl, hr2, hb2⟩; have hb12 := hb1.trans (hb2.mono hb1.size)) | (go_at_call 9; refine (put_no s v l _ q1 q2 q3 ((hv.below hb12).mono hb12.size) HR.out).mono ?_; rintro e w3 ⟨rfl, hb3⟩; have hb23 := hb12.trans (hb3.mono hb12.size)) | (go_at_call 11; refine (refRight_any s v2 l _ q1 q2 q3 ((hr2.below hb3).mono hb3.size)).mono ?_; rintro e w4 ⟨he, rfl⟩; rw [HR.out] at he; subst he))
  go_ret
  exact ⟨rfl, hb23⟩

set_option maxHeartbeats 600000 in
set_option maxRecDepth 100000 in
theorem puts_right (s : ByteArray) (v : Value) (l : List Edit) (w : World) (hv : Rec w.heap.size w v 2 editCells l) (h20 : l.length ≤ 20) (h200 : ∀ k, (h : k < l.length) → l[k].2.size ≤ 200) (h3 : s.size ≤ 300)
    (hR : rightB s.size 0 s.size l = true) :
    Calls Try.prog 4 #[.string s, v] w fun e w' => e = .returned (.bool true) ∧ Below w.heap.size w w' := by
  obtain ⟨t, ht⟩ : ∃ t : ByteArray, t = ⟨(putOut s.data.toList 0 l).toArray⟩ := ⟨_, rfl⟩
  have hS : ((s.data.toList.length : Nat) : Int) = s.size := by rw [size_list]
  have htl : t.data.toList = putOut s.data.toList 0 l := by rw [ht]
  have htz : t.size = (putOut s.data.toList 0 l).length := by rw [← size_list, htl]
  have hwi : withinB t.size 0 (putSpans 0 0 l) = true := put_within s.size s.data.toList hS l 0 0 s.size 0 t.size hR (by omega) (Int.le_refl _)
  have hcu : cutOut t.data.toList 0 (putSpans 0 0 l) = s.data.toList := by
    have := put_cut s.size s.data.toList hS l [] 0 s.size 0 hR (Nat.zero_le _)
    rw [htl]
    simpa using this
  have hpi : picks t (putSpans 0 0 l) = l.map (·.2) := put_picks s.size s.data.toList hS t l [] 0 s.size hR htl
  have htb : t.size ≤ 1099511627776 := by
    have := put_len s.size s.data.toList hS l 0 s.size hR (by omega)
    omega
  have hpl : (putSpans 0 0 l).length = l.length := by
    have := congrArg List.length hpi
    simpa [picks] using this
  have HR := Lib.hid hR
  have HC := Lib.hid hcu
  have HT := Lib.hid ht
  have HP := Lib.hid hpi
  have HL := Lib.hid hpl
  have HWI := Lib.hid hwi
  have q1 : s.size ≤ 1099511627776 := by omega
  have q2 : l.length ≤ 1099511627776 := by omega
  have q3 : ∀ k, (h : k < l.length) → l[k].2.size ≤ 1099511627776 := fun k h => by have := h200 k h; omega
  have q4 : (putSpans 0 0 l).length ≤ 1099511627776 := by omega
  obtain ⟨al, capl, rfl, hcl, hfl⟩ := hv.form (fun _ => rfl)
  clear hR hcu ht hpi hpl hwi htl htz hS
  go_enter Try.func4, Try.ntmps4
  go_wp2_with (first | (go_at_call 8; refine (anchor_any _).mono ?_; rintro e w1 ⟨rfl, hb1⟩) | (go_at_call 10; refine (edits_yes _ l _ ((hv.below hb1).mono hb1.size) h20 h200).mono ?_; rintro e w2 ⟨v2, rfl, hr2, hb2⟩; have hb12 := hb1.trans (hb2.mono hb1.size)) | (go_at_call 9; refine (put_any s _ l _ q1 q2 q3 ((hv.below hb12).mono hb12.size) HR.out).mono ?_))
  rintro e w3 ⟨v3, rfl, hr3, hb3⟩
  rw [← HT.out]
  have hb13 := hb12.trans (hb3.mono hb12.size)
  obtain ⟨a3, cap3, rfl, hc3, hf3⟩ := hr3.formN (fun _ => rfl) HL.out
  have hr23 := (hr2.below hb3).mono hb3.size
  obtain ⟨a2, cap2, rfl, hc2, hf2⟩ := hr23.form (fun _ => rfl)
  clear hf2 hr2 hb2
  go_wp2_with (first | (go_at_call 11; refine (refRight_any s _ l _ q1 q2 q3 hr23).mono ?_; rintro e w4 ⟨he, rfl⟩; rw [HR.out] at he; subst he) | (go_at_call 12; refine (refPut_any s _ l _ (by omega) (by omega) hr23 HR.out).mono ?_))
  rintro e w4 ⟨v4, rfl, hr4, hb4⟩
  rw [← HT.out]
  have hb14 := hb13.trans (hb4.mono hb13.size)
  obtain ⟨a4, cap4, rfl, hc4, hf4⟩ := hr4.formN (fun _ => rfl) HL.out
  have hr34 := (hr3.below hb4).mono hb4.size
  go_wp2_with (first | (go_at_call 13; refine (pick_any t _ _ _ htb q4 hr34 HWI.out).mono ?_))
  rintro e w5 ⟨v5, rfl, hr5, hb5⟩
  rw [HP.out] at hr5
  have hb15 := hb14.trans (hb5.mono hb14.size)
  have hr35 := (hr34.below hb5).mono hb5.size
  obtain ⟨a5, cap5, rfl, hc5, hf5⟩ := hr5.formN (fun _ => rfl) (List.length_map ..)
  go_wp2_with (first | (go_at_call 14; refine (cut_any t _ _ _ htb q4 hr35 HWI.out).mono ?_))
  rintro e w6 ⟨rfl, hb6⟩
  have hb16 := hb15.trans (hb6.mono hb15.size)
  rw [HC.out]
  have hz6 := hb16.size
  have r3 := (hr35.below hb6).mono hb6.size
  have r4 := (((hr4.below hb5).mono hb5.size).below hb6).mono hb6.size
  have r5 := (hr5.below hb6).mono hb6.size
  have r1 := (hv.below hb16).mono hz6
  clear hfl hf3 hf4 hf5 hr3 hr34 hr35 hr4 hr5 hr23 hb1 hb12 hb13 hb14 hb15 hb3 hb4 hb5 hb6
  go_wp2
  go_loopw [106] (fun ii wr => ∃ k : Nat, k ≤ l.length ∧ ii = .int .i64 k ∧ Below w6.heap.size w6 wr) (fun ii _ => l.length - (intOf ii).toNat)
  case atStart => exact ⟨0, Nat.zero_le _, rfl, Below.refl _ _⟩
  case round =>
    obtain ⟨k, hk, rfl, hbl⟩ := hrel
    have hz := hbl.size
    by_cases hlt : k < l.length
    · have hlen := HL.out
      obtain ⟨b3, o3, rfl, hb3, hc3'⟩ := r3.cells (fun _ => rfl) (by omega)
      obtain ⟨b4, o4, rfl, hb4, hc4'⟩ := r4.cells (fun _ => rfl) (by omega)
      obtain ⟨b5, o5, rfl, hb5, hc5'⟩ := r5.cells (fun _ => rfl) (by rw [List.length_map]; omega)
      obtain ⟨b1, o1, rfl, hb1, hc1'⟩ := r1.cells (fun _ => rfl) (by omega)
      have x3 := (hbl.cell (p := ⟨b3, o3 + k * 2, none⟩) hb3).trans (hc3' k 0 _ (by omega) rfl)
      have y3 := (hbl.cell (p := ⟨b3, o3 + k * 2 + 1, none⟩) hb3).trans (hc3' k 1 _ (by omega) rfl)
      have x4 := (hbl.cell (p := ⟨b4, o4 + k * 2, none⟩) hb4).trans (hc4' k 0 _ (by omega) rfl)
      have y4 := (hbl.cell (p := ⟨b4, o4 + k * 2 + 1, none⟩) hb4).trans (hc4' k 1 _ (by omega) rfl)
      have x5 := (hbl.cell (p := ⟨b5, o5 + k, none⟩) hb5).trans (by have := hc5' k 0 _ (by rw [List.length_map]; omega) rfl; simpa using this)
      have y1 := (hbl.cell (p := ⟨b1, o1 + k * 2 + 1, none⟩) hb1).trans (hc1' k 1 _ (by omega) rfl)
      generalize (putSpans 0 0 l)[k] = p at x3 y3 x4 y4
      generalize (l[k]).2 = tx at x5 y1
      obtain ⟨p0, p1⟩ := p
      simp only at x3 y3 x4 y4
      have i0 : (0 : Int) ≤ (k : Int) := Int.natCast_nonneg _
      have i1 : (k : Int) < (l.length : Int) := by omega
      clear hc3' hc4' hc5' hc1' hlen q3
      go_wp2
      have g0 : (p0 != p0) = false := by simp
      have g1 : (p1 != p1) = false := by simp
      have hbq : Below w6.heap.size w6 (wr.alloc (.cells #[.int .i64 p0, .int .i64 p1] 45)) := hbl.alloc hz _
      have nq := heap_alloc_new wr (.cells #[.int .i64 p0, .int .i64 p1] 45)
      have z0 : (wr.alloc (.cells #[.int .i64 p0, .int .i64 p1] 45)).cell? ⟨wr.heap.size, 0, none⟩ = some (.int .i64 p0) := by rw [Lib.cell_of_heap nq]; rfl
      have z1 : (wr.alloc (.cells #[.int .i64 p0, .int .i64 p1] 45)).cell? ⟨wr.heap.size, 1, none⟩ = some (.int .i64 p1) := by rw [Lib.cell_of_heap nq]; rfl
      have x4 := cell_later ((Below.refl wr.heap.size wr).alloc (Nat.le_refl _) (.cells #[.int .i64 p0, .int .i64 p1] 45)) x4
      have y4 := cell_later ((Below.refl wr.heap.size wr).alloc (Nat.le_refl _) (.cells #[.int .i64 p0, .int .i64 p1] 45)) y4
      have x5 := cell_later ((Below.refl wr.heap.size wr).alloc (Nat.le_refl _) (.cells #[.int .i64 p0, .int .i64 p1] 45)) x5
      have y1 := cell_later ((Below.refl wr.heap.size wr).alloc (Nat.le_refl _) (.cells #[.int .i64 p0, .int .i64 p1] 45)) y1
      generalize wr.alloc (.cells #[.int .i64 p0, .int .i64 p1] 45) = wq at hbq nq z0 z1 x4 y4 x5 y1 ⊢
      clear nq
      go_quiet (fail)
      go_wp2
      go_roundw
      case rel => exact ⟨k + 1, by omega, by go_num, below_drewN hbq _⟩
      case measure => simp [intOf]; omega
    · have hkl : k = l.length := by omega
      clear q3
      go_wp2
      go_ret
      exact ⟨rfl, hb16.trans (hbl.mono hz6)⟩
end Go.Proofs.Ytofbhdpcpoclaaa
