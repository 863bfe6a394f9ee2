/- SpotCuts' walk: at any text and spans it returns true. No condition. -/
import Derived.Test.YtofbhdpcpoclaaaSpotPuts
namespace Go.Proofs.Ytofbhdpcpoclaaa
open Go.RowKit

set_option maxHeartbeats 1000000 in
set_option maxRecDepth 100000 in
theorem refWithin_any (s : ByteArray) (v : Value) (l : List Span) (w : World)
    (hs : s.size ≤ 1099511627776) (hl : l.length ≤ 1099511627776) (hv : Rec w.heap.size w v 2 spanCells l) :
    Calls Try.prog 15 #[.string s, v] w fun e w' => e = .returned (.bool (withinB s.size 0 l)) ∧ Below w.heap.size w w' := by
  obtain ⟨ao, cap, rfl, hcap, hf⟩ := hv.form (fun _ => rfl)
  clear hv
  go_enter Try.func15, Try.ntmps15
  go_wp2
  go_loopw [5, 6] (fun la i wr => ∃ k : Nat, k ≤ l.length ∧ i = .int .i64 k ∧ ∃ a : Int, la = .int .i64 a ∧ Below w.heap.size w wr ∧
      withinB s.size a (l.drop k) = withinB s.size 0 l) (fun _ i _ => l.length - (intOf i).toNat)
  case atStart => exact ⟨0, Nat.zero_le _, rfl, 0, rfl, Below.refl _ _, rfl⟩
  case round =>
    obtain ⟨k, hk, rfl, a, rfl, hbl, hR⟩ := hrel
    by_cases hlt : k < l.length
    · obtain ⟨b, off, rfl, hb, hcell⟩ := hf (by omega)
      have hx0 := (hbl.cell (p := ⟨b, off + k * 2, none⟩) hb).trans (hcell k 0 _ hlt rfl)
      have hx1 := (hbl.cell (p := ⟨b, off + k * 2 + 1, none⟩) hb).trans (hcell k 1 _ hlt rfl)
      rw [List.drop_eq_getElem_cons hlt] at hR
      generalize l[k] = e at hx0 hx1 hR
      obtain ⟨e0, e1⟩ := e
      simp only at hx0 hx1
      have HR := Lib.hid hR
      have i0 : (0 : Int) ≤ (k : Int) := Int.natCast_nonneg _
      have i1 : (k : Int) < (l.length : Int) := by omega
      clear hcell hf hR
      by_cases h1 : e0 < a
      · go_wp2
        go_quiet (fail)
        go_wp2
        go_ret
        exact ⟨ret_bool (by rw [← HR.out, withinB, if_pos h1]), below_drewN hbl _⟩
      have d1 : decide (e0 < a) = false := by simpa using h1
      by_cases h2 : e1 ≤ e0
      · go_wp2
        go_quiet (fail)
        go_wp2
        go_ret
        exact ⟨ret_bool (by rw [← HR.out, withinB, if_neg (by omega), if_pos h2]), below_drewN hbl _⟩
      have d2 : decide (e1 ≤ e0) = false := by simpa using h2
      by_cases h3 : (s.size : Int) < e1
      · go_wp2
        go_quiet (fail)
        go_wp2
        go_ret
        exact ⟨ret_bool (by rw [← HR.out, withinB, if_neg (by omega), if_neg (by omega), if_pos h3]), below_drewN hbl _⟩
      have d3 : decide ((s.size : Int) < e1) = false := by simpa using h3
      go_wp2
      go_quiet (fail)
      go_wp2
      go_roundw
      case rel => exact ⟨k + 1, by omega, by go_num, e1, rfl, below_drewN hbl _, by rw [← HR.out, withinB, if_neg (by omega), if_neg (by omega), if_neg (by omega)]⟩
      case measure => simp [intOf]; omega
    · have hkl : k = l.length := by omega
      have HR := Lib.hid hR
      clear hR hf
      go_wp2
      go_ret
      exact ⟨ret_bool (by rw [← HR.out, hkl, List.drop_length, withinB]), hbl⟩

/-- What was cut out, to be put in again, g bytes having gone so far. -/
def backOf (s : ByteArray) : Int → List Span → List Edit
  | _, [] => []
  | g, p :: r => (p.1 - g, s.extract p.1.toNat p.2.toNat) :: backOf s (g + (p.2 - p.1)) r
def gaps : List Span → Int
  | [] => 0
  | p :: r => (p.2 - p.1) + gaps r

theorem back_small (s : ByteArray) : ∀ (l : List Span) (g : Int) (e : Edit), e ∈ backOf s g l → e.2.size ≤ s.size
  | [], _, _, h => by cases h
  | p :: r, g, e, h => by
    rw [backOf, List.mem_cons] at h
    rcases h with rfl | h
    · show (s.extract _ _).size ≤ _
      rw [ByteArray.size_extract]
      omega
    · exact back_small s r _ e h

theorem gaps_pos (n : Int) : ∀ (l : List Span) (a : Int), withinB n a l = true → 0 ≤ gaps l
  | [], _, _ => Int.le_refl _
  | p :: r, a, h => by
    obtain ⟨h1, h2, h3, h4⟩ := (withinB_cons _ _ _ _).1 h
    have := gaps_pos n r _ h4
    rw [gaps]
    omega

theorem cut_len (S : List UInt8) (n : Int) (hS : (S.length : Int) = n) : ∀ (l : List Span) (last : Nat), withinB n last l = true → (last : Int) ≤ n → ((cutOut S last l).length : Int) + gaps l = n - last
  | [], last, _, hl => by rw [cutOut, List.length_drop, gaps]; omega
  | p :: r, last, h, hl => by
    obtain ⟨h1, h2, h3, h4⟩ := (withinB_cons _ _ _ _).1 h
    obtain ⟨p1, e1⟩ := Int.eq_ofNat_of_zero_le (by omega : 0 ≤ p.1)
    obtain ⟨p2, e2⟩ := Int.eq_ofNat_of_zero_le (by omega : 0 ≤ p.2)
    have := cut_len S n hS r p2 (by rw [← e2]; exact h4) (by omega)
    rw [cutOut, gaps, e1, e2, List.length_append, List.length_drop, List.length_take]
    simp only [Int.toNat_natCast]
    omega

theorem back_right (s : ByteArray) (n : Int) (hn : (s.size : Int) = n) (hb : n ≤ 65536) : ∀ (l : List Span) (last : Nat) (g R : Int), withinB n last l = true → (last : Int) ≤ n → 0 ≤ g → g ≤ last → R + g + gaps l = n → ((cutOut s.data.toList last l).length : Int) + (last - g) = R →
    rightB R (last - g) (R + g) (backOf s g l) = true
  | [], last, g, R, _, hl, h0, hg, hR, _ => by
    rw [backOf, rightB]
    rw [gaps] at hR
    exact decide_eq_true (by omega)
  | p :: r, last, g, R, h, hl, h0, hg, hR, hc => by
    obtain ⟨h1, h2, h3, h4⟩ := (withinB_cons _ _ _ _).1 h
    obtain ⟨p1, e1⟩ := Int.eq_ofNat_of_zero_le (by omega : 0 ≤ p.1)
    obtain ⟨p2, e2⟩ := Int.eq_ofNat_of_zero_le (by omega : 0 ≤ p.2)
    have hg0 := gaps_pos n r _ h4
    have hsz : (s.extract p1 p2).size = p2 - p1 := by rw [ByteArray.size_extract]; omega
    rw [gaps] at hR
    rw [cutOut, e1, e2, List.length_append, List.length_drop, List.length_take, size_list] at hc
    simp only [Int.toNat_natCast] at hc
    have ih := back_right s n hn hb r p2 (g + (p.2 - p.1)) R (by rw [← e2]; exact h4) (by omega) (by omega) (by omega) (by omega) (by omega)
    rw [backOf, rightB_cons]
    simp only [e1, e2, Int.toNat_natCast]
    rw [e1, e2] at ih
    rw [hsz]
    refine ⟨by omega, by omega, by omega, by omega, ?_⟩
    rw [show (p1 : Int) - g = p2 - (g + (p2 - p1)) by omega, show R + g + ((p2 - p1 : Nat) : Int) = R + (g + (p2 - p1)) by omega]
    exact ih

theorem back_put (s : ByteArray) (n : Int) (hn : (s.size : Int) = n) : ∀ (l : List Span) (last : Nat) (g : Nat) (pre : List UInt8), withinB n last l = true → (last : Int) ≤ n → g ≤ last → pre.length = last - g →
    putOut (pre ++ cutOut s.data.toList last l) (last - g) (backOf s g l) = s.data.toList.drop last
  | [], last, g, pre, _, hl, hg, hp => by
    rw [backOf, putOut, cutOut, ← hp, List.drop_left]
  | p :: r, last, g, pre, h, hl, hg, hp => by
    obtain ⟨h1, h2, h3, h4⟩ := (withinB_cons _ _ _ _).1 h
    obtain ⟨p1, e1⟩ := Int.eq_ofNat_of_zero_le (by omega : 0 ≤ p.1)
    obtain ⟨p2, e2⟩ := Int.eq_ofNat_of_zero_le (by omega : 0 ≤ p.2)
    have hS := size_list s
    have hc : ((s.data.toList.take p1).drop last).length = p1 - last := by rw [List.length_drop, List.length_take]; omega
    have ih := back_put s n hn r p2 (g + (p2 - p1)) (pre ++ (s.data.toList.take p1).drop last) (by rw [← e2]; exact h4) (by omega) (by omega) (by rw [List.length_append, hc]; omega)
    have e3 : ((p1 : Int) - (g : Int)) = ((p1 - g : Nat) : Int) := by omega
    have e4 : ((g : Int) + ((p2 : Int) - (p1 : Int))) = ((g + (p2 - p1) : Nat) : Int) := by omega
    rw [backOf, putOut, cutOut, e1, e2, e3, e4]
    simp only [Int.toNat_natCast]
    rw [List.append_assoc] at ih
    rw [show p1 - g = p2 - (g + (p2 - p1)) by omega, ih, extract_list]
    rw [← List.append_assoc, show p2 - (g + (p2 - p1)) = (pre ++ (s.data.toList.take p1).drop last).length by rw [List.length_append, hc]; omega, ← List.append_assoc pre, List.take_left, ← hp, List.drop_left]
    rw [List.append_assoc, take_drop_join _ _ _ (by omega) (by omega), take_drop_join _ _ _ (by omega) (by omega)]

set_option maxHeartbeats 1000000 in
set_option maxRecDepth 100000 in
theorem cuts_wide (s : ByteArray) (v : Value) (l : List Span) (w : World) (hs : s.size ≤ 9223372036854775807) (hl : l.length ≤ 9223372036854775807) (hv : Rec w.heap.size w v 2 spanCells l) (hno : ¬ (s.size ≤ 300 ∧ l.length ≤ 20)) :
    Calls Try.prog 5 #[.string s, v] w fun e w' => e = .returned (.bool true) ∧ Below w.heap.size w w' := by
  obtain ⟨ao, cap, rfl, hcap, hf⟩ := hv.form (fun _ => rfl)
  clear hf
  by_cases h3 : (300 : Int) < (s.size : Int)
  · clear hno
    go_enter Try.func5, Try.ntmps5
    go_wp2_with (go_at_call 8; refine (anchor_any _).mono ?_; rintro e w1 ⟨rfl, hb1⟩)
    all_goals (go_ret; exact ⟨rfl, hb1⟩)
  · have h4 : (20 : Int) < (l.length : Int) := by omega
    have h5 : (s.size : Int) ≤ 300 := by omega
    clear hno
    go_enter Try.func5, Try.ntmps5
    go_wp2_with (go_at_call 8; refine (anchor_any _).mono ?_; rintro e w1 ⟨rfl, hb1⟩)
    all_goals (go_ret; exact ⟨rfl, hb1⟩)

set_option maxHeartbeats 1000000 in
set_option maxRecDepth 100000 in
theorem cuts_law (s : ByteArray) (v : Value) (l : List Span) (w : World) (hs : s.size ≤ 300) (hl : l.length ≤ 20) (hv : Rec w.heap.size w v 2 spanCells l) :
    Calls Try.prog 5 #[.string s, v] w fun e w' => e = .returned (.bool true) ∧ Below w.heap.size w w' := by
  obtain ⟨i0, hi, hz0, hz1, hz2⟩ := info_parts Try.infoRSpan
  obtain ⟨j0, hj, hy0, hy1, hy2⟩ := info_parts Try.infoEdit
  obtain ⟨ao, cap, rfl, hcap, hf⟩ := hv.form (fun _ => rfl)
  have q1 : s.size ≤ 1099511627776 := by omega
  have q2 : l.length ≤ 1099511627776 := by omega
  have h3 : (s.size : Int) ≤ 300 := by omega
  have h4 : (l.length : Int) ≤ 20 := by omega
  go_enter Try.func5, Try.ntmps5
  go_wp2_with (go_at_call 8; refine (anchor_any _).mono ?_; rintro e w1 ⟨rfl, hb1⟩)
  go_loopw [5, 31] (fun out i wr => ∃ k : Nat, k ≤ l.length ∧ i = .int .i64 k ∧ wr.ownsRow w.heap.size 46 2 out k ((l.take k).flatMap spanCells) ∧ Below w.heap.size w wr) (fun _ i _ => l.length - (intOf i).toNat)
  case atStart => exact ⟨0, Nat.zero_le _, rfl, World.ownsRow_nil _ _ _ _, hb1⟩
  case round =>
    obtain ⟨k, hk, rfl, hown, hbl⟩ := hrel
    have hz := hbl.size
    by_cases hlt : k < l.length
    · obtain ⟨b, off, rfl, hb, hcell⟩ := hf (by omega)
      have hx0 := (hbl.cell (p := ⟨b, off + k * 2, none⟩) hb).trans (hcell k 0 _ hlt rfl)
      have hx1 := (hbl.cell (p := ⟨b, off + k * 2 + 1, none⟩) hb).trans (hcell k 1 _ hlt rfl)
      have hsn := take_snoc l k hlt
      generalize l[k] = e at hx0 hx1 hsn
      obtain ⟨e0, e1⟩ := e
      simp only at hx0 hx1
      have HS := Lib.hid hsn
      clear hcell hf hsn hb1
      go_wp2_with (at_builtin; refine wpList_append_own _ rfl _ _ 36 rfl w.heap.size 46 i0 (.agg #[.int .i64 0, .int .i64 0]) 2 16 Try.underlying36 hi hz0 hz1 hz2 rfl (by decide) _ _ _ rfl ((hown.alloc _).alloc _) ⟨wr.heap.size + 1, 0, none⟩ 1 1 [.int .i64 e0, .int .i64 e1] rfl rfl ?c1 ?c2 ?c3 ?c4 ?c5 ?_)
      case c1 => exact cells_two (by go_simp) (by go_simp)
      case c2 => intro u hu; simp at hu; rcases hu with rfl | rfl <;> rfl
      case c3 => unfold maxLen; omega
      case c4 => omega
      case c5 => simp; omega
      intro v' w2 hown' hgrow _
      have hb2 : Below w.heap.size w w2 := ((hbl.alloc hz _).alloc (by simp; omega) _).grown hgrow (by simp; omega) (fun q hq => (hown.lt q hq).1)
      have hown2 : w2.ownsRow w.heap.size 46 2 v' (k + 1) ((l.take (k + 1)).flatMap spanCells) := by
        rw [HS.out, List.flatMap_append]
        exact hown'
      clear hgrow hown hown'
      go_wp2
      go_roundw
      case rel => exact ⟨k + 1, by omega, by go_num, hown2, hb2⟩
      case measure => simp [intOf]; omega
    · have hkl : k = l.length := by omega
      subst hkl
      clear hf hb1
      rw [List.take_length] at hown
      have hr : Rec wr.heap.size wr _ 2 spanCells l := Sl.ofOwns hown
      have hv1 := (hv.below hbl).mono hz
      obtain ⟨ax, capx, rfl, hcx, _⟩ := hr.form (fun _ => rfl)
      clear hown
      cases hW : withinB s.size 0 l with
      | false =>
        have HW := Lib.hid hW
        clear hW
        go_wp2_with (first | (go_at_call 14; refine (cut_no s _ l _ q1 q2 hv1 HW.out).mono ?_; rintro e w2 ⟨rfl, hb2⟩) | (go_at_call 13; refine (pick_no s _ l _ q1 q2 ((hv1.below hb2).mono hb2.size) HW.out).mono ?_; rintro e w3 ⟨rfl, hb3⟩; have hb23 := hb2.trans (hb3.mono hb2.size)) | (go_at_call 15; refine (refWithin_any s _ l _ q1 q2 ((hr.below hb23).mono hb23.size)).mono ?_; rintro e w4 ⟨he, hb4⟩; rw [HW.out] at he; subst he))
        go_ret
        exact ⟨rfl, (hbl.trans (hb23.mono hz)).trans (hb4.mono (by have := hb23.size; omega))⟩
      | true =>
        have hgp := gaps_pos s.size l 0 hW
        have hcl := cut_len s.data.toList s.size (by rw [size_list]) l 0 hW (by omega)
        have hbr := back_right s s.size rfl (by omega) l 0 0 ((cutOut s.data.toList 0 l).length : Int) hW (by omega) (by omega) (by omega) (by omega) (by omega)
        have hbp := back_put s s.size rfl l 0 0 [] hW (by omega) (by omega) rfl
        obtain ⟨r, hr0⟩ : ∃ r : ByteArray, r = ⟨(cutOut s.data.toList 0 l).toArray⟩ := ⟨_, rfl⟩
        have hrl : r.data.toList = cutOut s.data.toList 0 l := by rw [hr0]
        have hrz : (r.size : Int) + gaps l = s.size := by rw [← size_list, hrl]; omega
        have hbr : rightB r.size 0 r.size (backOf s 0 l) = true := by
          rw [← size_list, hrl]
          simpa using hbr
        have hbp : putOut r.data.toList 0 (backOf s 0 l) = s.data.toList := by
          rw [hrl]
          simpa using hbp
        have hpl : (picks s l).length = l.length := by simp [picks]
        have HR0 := Lib.hid hr0
        have HRZ := Lib.hid hrz
        have HBR := Lib.hid hbr
        have HBP := Lib.hid hbp
        have HW := Lib.hid hW
        have HGP := Lib.hid hgp
        clear hW hcl hbr hbp hr0 hrl hrz hgp
        go_wp2_with (first | (go_at_call 14; refine (cut_any s _ l _ q1 q2 hv1 HW.out).mono ?_))
        rintro e w2 ⟨rfl, hb2⟩
        rw [← HR0.out]
        go_wp2_with (first | (go_at_call 13; refine (pick_any s _ l _ q1 q2 ((hv1.below hb2).mono hb2.size) HW.out).mono ?_))
        rintro e w3 ⟨v3, rfl, hr3, hb3⟩
        have hb23 := hb2.trans (hb3.mono hb2.size)
        obtain ⟨a3, cap3, rfl, hc3, _⟩ := hr3.formN (fun _ => rfl) hpl
        go_wp2_with (first | (go_at_call 15; refine (refWithin_any s _ l _ q1 q2 ((hr.below hb23).mono hb23.size)).mono ?_; rintro e w4 ⟨he, hb4⟩; rw [HW.out] at he; subst he))
        have hb24 := hb23.trans (hb4.mono hb23.size)
        have hb04 : Below w.heap.size w w4 := hbl.trans (hb24.mono hz)
        have hv4 := (hv.below hb04).mono hb04.size
        have hr4 := (hr3.below hb4).mono hb4.size
        have hz04 := hb04.size
        clear hb2 hb3 hb4 hb23 hb24 hv1 hr3 hbl hr
        go_loopw [12, 13, 86] (fun bk gn ii wr => ∃ k : Nat, k ≤ l.length ∧ ii = .int .i64 k ∧ ∃ (g a : Int) (bs : List Edit), gn = .int .i64 g ∧ wr.ownsRow w4.heap.size 29 2 bk k (bs.flatMap editCells) ∧ bs.length = k ∧ Below w4.heap.size w4 wr ∧
          0 ≤ g ∧ g ≤ a ∧ a ≤ s.size ∧ withinB s.size a (l.drop k) = true ∧ bs ++ backOf s g (l.drop k) = backOf s 0 l ∧ g + gaps (l.drop k) = gaps l) (fun _ _ ii _ => l.length - (intOf ii).toNat)
        case atStart => exact ⟨0, Nat.zero_le _, rfl, 0, 0, [], rfl, World.ownsRow_nil _ _ _ _, rfl, Below.refl _ _, by omega, by omega, by omega, HW.out, rfl, by simp⟩
        case round =>
          obtain ⟨k, hk, rfl, g, a, bs, rfl, hown, hbl1, hbl, g0, g1, g2, hWk, hB, hG⟩ := hrel
          have hz := hbl.size
          have HB := Lib.hid hB
          have HG := Lib.hid hG
          have HWk := Lib.hid hWk
          have HL1 := Lib.hid hbl1
          clear hB hG hWk hbl1
          by_cases hlt : k < l.length
          · obtain ⟨b, off, rfl, hb, hcell⟩ := hv4.cells (fun _ => rfl) (by omega)
            obtain ⟨b3, o3, rfl, hb3, hcell3⟩ := hr4.cells (fun _ => rfl) (by rw [hpl]; omega)
            have hx0 := (hbl.cell (p := ⟨b, off + k * 2, none⟩) hb).trans (hcell k 0 _ hlt rfl)
            have hx1 := (hbl.cell (p := ⟨b, off + k * 2 + 1, none⟩) hb).trans (hcell k 1 _ hlt rfl)
            have hx3 := (hbl.cell (p := ⟨b3, o3 + k, none⟩) hb3).trans (by have := hcell3 k 0 _ (by rw [hpl]; exact hlt) rfl; simpa [picks] using this)
            have hw := HWk.out
            have hB := HB.out
            have hG := HG.out
            rw [List.drop_eq_getElem_cons hlt] at hw hB hG
            generalize l[k] = e at hx0 hx1 hx3 hw hB hG
            obtain ⟨e0, e1⟩ := e
            simp only at hx0 hx1 hx3
            obtain ⟨h1, h2, h5, h6⟩ := (withinB_cons _ _ _ _).1 hw
            simp only at h1 h2 h5 h6
            obtain ⟨n0, rfl⟩ := Int.eq_ofNat_of_zero_le (by omega : 0 ≤ e0)
            obtain ⟨n1, rfl⟩ := Int.eq_ofNat_of_zero_le (by omega : 0 ≤ e1)
            simp only [Int.toNat_natCast] at hx3
            rw [backOf] at hB
            simp only [Int.toNat_natCast] at hB
            rw [gaps] at hG
            generalize s.extract n0 n1 = tx at hx3 hB
            have HB2 := Lib.hid hB
            have HG2 := Lib.hid hG
            have HW2 := Lib.hid h6
            have i0' : (0 : Int) ≤ (k : Int) := Int.natCast_nonneg _
            have i1' : (k : Int) < (l.length : Int) := by omega
            have i2' : 0 ≤ (n0 : Int) - g := by omega
            have hwr : IntKind.i64.wrap ((n0 : Int) - g) = (n0 : Int) - g := IntWalk.i64_in _ (by omega)
            clear hcell hcell3 hw hB hG h6 HB HG HWk
            have nq := heap_alloc_new wr (.cells #[.int .i64 n0, .int .i64 n1] 45)
            have z0 : (wr.alloc (.cells #[.int .i64 n0, .int .i64 n1] 45)).cell? ⟨wr.heap.size, 0, none⟩ = some (.int .i64 n0) := by rw [Lib.cell_of_heap nq]; rfl
            have z1 : (wr.alloc (.cells #[.int .i64 n0, .int .i64 n1] 45)).cell? ⟨wr.heap.size, 1, none⟩ = some (.int .i64 n1) := by rw [Lib.cell_of_heap nq]; rfl
            have z3 := cell_later ((Below.refl wr.heap.size wr).alloc (Nat.le_refl _) (.cells #[.int .i64 n0, .int .i64 n1] 45)) hx3
            have hown1 := hown.alloc (.cells #[.int .i64 n0, .int .i64 n1] 45)
            have hbn := own_ne hown1 nq (by decide)
            have hbl2 := hbl.alloc hz (.cells #[.int .i64 n0, .int .i64 n1] 45)
            have hz2' : (wr.alloc (.cells #[.int .i64 n0, .int .i64 n1] 45)).heap.size = wr.heap.size + 1 := by simp
            go_wp2
            generalize wr.alloc (.cells #[.int .i64 n0, .int .i64 n1] 45) = wq at nq z0 z1 z3 hown1 hbl2 hz2' ⊢
            have hzq : wr.heap.size + 1 ≤ wq.heap.size := by omega
            have hz4q : w4.heap.size ≤ wq.heap.size := by omega
            have hb3q : b3 < w4.heap.size := by omega
            clear hz2' hx3 hx0 hx1
            have hne3 : some b3 ≠ u12.ownBlock := fun q => by have := (hown1.lt b3 q.symm).1; omega
            go_region_held3 (fun w' => w'.cell? ⟨wr.heap.size, 0, none⟩ = some (.int .i64 n0) ∧ w'.cell? ⟨wr.heap.size, 1, none⟩ = some (.int .i64 n1) ∧ w'.cell? ⟨b3, o3 + k, none⟩ = some (.string tx))
              (first | go_keep | (go_split_ands; refine ⟨?_, ?_, ?_⟩ <;> first | (rw [hgrow5.cell_far _ (by simp; omega) hbn]; assumption) | (rw [hgrow5.cell_far _ (by simp; omega) hne3]; assumption)))
              ((refine step_append_lies _ (by rfl) _ _ _ (by rfl) w4.heap.size 29 j0 _ 2 24 Try.underlying31 hj hy0 hy1 hy2 rfl (by omega) u12 k _ (by rfl) (owns_drew (hown1.alloc _)) ⟨wq.heap.size, 0, none⟩ 1 1 [.int .i64 (n0 - g), .string tx] (by rfl) (by rfl) (World.news_of_block (cs := #[.int .i64 (n0 - g), .string tx]) (t := 29) (fr := (0, 0)) (heap_alloc_new wq _)) (by simp [Value.oneCell']) (by omega) (by unfold maxLen; omega) (by omega) (by simp; omega) (wq.heap.size + 1) (by simp) ?_; intro gg cap5 w5 hown5 hgrow5 hat5 hlt5))
            have hown5' : w5.ownsRow w4.heap.size 29 2 (.slice (some ⟨gg, 0, none⟩) (k + 1) cap5) (k + 1) ((bs ++ [((n0 : Int) - g, tx)]).flatMap editCells) := by
              rw [List.flatMap_append]; exact hown5
            have hb5 : Below w4.heap.size w4 w5 := ((hbl2.alloc hz4q (.cells #[.int .i64 (n0 - g), .string tx] 29)).drew).grown hgrow5 (by simp; omega) (fun q hq => (hown1.lt q hq).1)
            clear hgrow5 hown5 hwr hat5
            go_wp2
            go_roundw
            case rel => exact ⟨k + 1, by omega, by go_num, g + (n1 - n0), n1, _, by go_num, hown5', by rw [List.length_append, HL1.out]; rfl, hb5, by omega, by omega, by omega, HW2.out, by rw [← HB2.out, List.append_assoc]; rfl, by rw [← HG2.out]; omega⟩
            case measure => simp [intOf]; omega
          · have hkl : k = l.length := by omega
            subst hkl
            have hB := HB.out
            have hG := HG.out
            rw [List.drop_length] at hB hG
            rw [backOf, List.append_nil] at hB
            rw [gaps, Int.add_zero] at hG
            subst hB hG
            have hrb : Rec wr.heap.size wr u12 2 editCells (backOf s 0 l) := by
              have := Sl.ofOwns hown
              rw [← HL1.out] at this
              exact this
            obtain ⟨ab, capb, rfl, hcb, _⟩ := hrb.formN (fun _ => rfl) HL1.out
            have qs : ∀ k, (h : k < (backOf s 0 l).length) → (backOf s 0 l)[k].2.size ≤ 1099511627776 := by
              intro k h
              have := back_small s l 0 _ (List.getElem_mem h)
              omega
            have qr : r.size ≤ 1099511627776 := by have := HRZ.out; have := HGP.out; omega
            have ql : (backOf s 0 l).length ≤ 1099511627776 := by rw [HL1.out]; omega
            clear HB HG HWk
            go_wp2_with (first | (go_at_call 9; refine (put_any r _ _ _ qr ql qs hrb HBR.out).mono ?_))
            rintro e w6 ⟨v6, rfl, hr6, hb6⟩
            obtain ⟨a6, cap6, rfl, hc6, _⟩ := hr6.form (fun _ => rfl)
            rw [HBP.out]
            have hse : ByteArray.mk s.data.toList.toArray = s := by cases s; simp
            rw [hse]
            have ht : ((r.size : Int) == (s.size : Int) - gaps l) = true := by have := HRZ.out; rw [beq_iff_eq]; omega
            have hgp := HGP.out
            have hgs : gaps l ≤ s.size := by have := HRZ.out; omega
            have hrs : (r.size : Int) ≤ 300 := by have := HRZ.out; omega
            go_wp2
            go_ret
            exact ⟨rfl, (hb04.trans (hbl.mono hz04)).trans (hb6.mono (by omega))⟩
end Go.Proofs.Ytofbhdpcpoclaaa
