/- The walk of lex.Whole. -/
import Derived.Test.YtofbhdpcpoclaaaDoorLexW6
import Derived.Test.YtofbhdpcpoclaaaDoorLexFacts
import Derived.Test.YtofbhdpcpoclaaaDoorBuilder
namespace Go.Proofs.YtofbhdpcpoclaaaDoor
open Go.RowKit

/-- The text of tokens. -/
def wholeF : List Tok → List UInt8
  | [] => []
  | t :: l => t.lead ++ t.text ++ wholeF l

theorem wholeF_len : ∀ (l : List Tok), (wholeF l).length = tokAt l l.length
  | [] => rfl
  | t :: l => by rw [wholeF, List.length_append, List.length_append, wholeF_len l, List.length_cons, tokAt_cons, tokLen]

theorem wholeF_snoc : ∀ (l : List Tok) (t : Tok), wholeF (l ++ [t]) = wholeF l ++ (t.lead ++ t.text)
  | [], t => by simp [wholeF]
  | x :: l, t => by simp only [List.cons_append, wholeF, wholeF_snoc l t, List.append_assoc]

theorem Laid.whole_take {T : List UInt8} {p : Nat} {l : List Tok} (h : Laid T p l) : ∀ k, k ≤ l.length → wholeF (l.take k) = T.take (tokAt l k)
  | 0, _ => by simp [wholeF, tokAt_zero]
  | k + 1, hk => by
    have hl : k < l.length := hk
    have hle := h.inside (k + 1) hk
    rw [tokAt_succ l k hl, tokLen] at hle
    rw [List.take_succ_eq_append_getElem hl, wholeF_snoc, h.whole_take k (by omega), tokAt_succ l k hl, tokLen]
    have h1 := h.lead k hl
    have h2 := h.text k hl
    generalize tokAt l k = a at h1 h2 hle ⊢
    rw [← Nat.add_assoc, List.take_add (i := a + l[k].lead.length), List.take_add (i := a), h1, h2, List.append_assoc]

theorem Laid.whole_eq {T : List UInt8} {p : Nat} {l : List Tok} (h : Laid T p l) : wholeF l = T := by
  have := h.whole_take l.length (Nat.le_refl _)
  rw [List.take_length, h.whole, List.take_length] at this
  exact this

theorem wholeF_take_len : ∀ (l : List Tok) (k : Nat), k ≤ l.length → (wholeF (l.take k)).length = tokAt l k
  | l, 0, _ => by simp [wholeF, tokAt_zero]
  | [], k + 1, h => absurd h (by simp)
  | t :: l, k + 1, h => by
    rw [List.take_succ_cons, wholeF, List.length_append, List.length_append, wholeF_take_len l k (by simpa using h), tokAt_cons, tokLen]

theorem tokAt_mono (l : List Tok) : ∀ (i j : Nat), i ≤ j → j ≤ l.length → tokAt l i ≤ tokAt l j := by
  intro i j h hj
  induction j with
  | zero => exact Nat.le_of_eq (by rw [Nat.le_zero.1 h])
  | succ j ih =>
    rcases Nat.lt_or_ge i (j + 1) with h' | h'
    · have := ih (by omega) (by omega)
      rw [tokAt_succ l j (by omega)]
      omega
    · obtain rfl : i = j + 1 := by omega
      exact Nat.le_refl _

theorem bytes_of (y : List UInt8) : ∃ Y : ByteArray, Y.data.toList = y ∧ ByteArray.mk y.toArray = Y := ⟨⟨y.toArray⟩, rfl, rfl⟩

set_option maxHeartbeats 1000000 in
set_option maxRecDepth 100000 in
theorem whole_any (v : Value) (l : List Tok) (w : World) (hl : l.length ≤ 1099511627776) (hn : tokAt l l.length ≤ 1099511627776) (hv : Rec w.heap.size w v 4 tokCells l) :
    Calls Tryd.prog 10 #[v] w fun e w' => e = .returned (.string ⟨(wholeF l).toArray⟩) ∧ Below w.heap.size w w' := by
  obtain ⟨ao, cap, rfl, hcap, hf⟩ := hv.form (fun _ => rfl)
  clear hv
  go_enter Tryd.func10, Tryd.ntmps10
  go_wp2
  go_loopw [8] (fun i wr => ∃ k : Nat, k ≤ l.length ∧ i = .int .i64 k ∧ Bld w.heap.size w.heap.size (wholeF (l.take k)) wr ∧ Below w.heap.size w wr) (fun i _ => l.length - (intOf i).toNat)
  case atStart => exact ⟨0, Nat.zero_le _, rfl, Bld.fresh w, (Below.refl _ _).alloc (Nat.le_refl _) _⟩
  case round =>
    obtain ⟨k, hk, rfl, hbd, hbl⟩ := hrel
    have hz := hbl.size
    by_cases hlt : k < l.length
    · obtain ⟨b, off, rfl, hb, hcell⟩ := hf (by omega)
      have hx0 := (hbl.cell (p := ⟨b, off + k * 4, none⟩) hb).trans (hcell k 0 _ hlt rfl)
      have hx1 := (hbl.cell (p := ⟨b, off + k * 4 + 1, none⟩) hb).trans (hcell k 1 _ hlt rfl)
      have hx2 := (hbl.cell (p := ⟨b, off + k * 4 + 2, none⟩) hb).trans (hcell k 2 _ hlt rfl)
      have hx3 := (hbl.cell (p := ⟨b, off + k * 4 + 3, none⟩) hb).trans (hcell k 3 _ hlt rfl)
      have hmo := tokAt_mono l (k + 1) l.length hlt (Nat.le_refl _)
      rw [tokAt_succ l k hlt, tokLen, ← wholeF_take_len l k hk] at hmo
      have hsn : wholeF (l.take (k + 1)) = wholeF (l.take k) ++ (l[k].lead ++ l[k].text) := by rw [List.take_succ_eq_append_getElem hlt, wholeF_snoc]
      generalize l[k] = t at hx0 hx1 hx2 hx3 hmo hsn
      obtain ⟨c, x, y, q⟩ := t
      simp only at hx0 hx1 hx2 hx3 hmo hsn
      obtain ⟨X, rfl, eX⟩ := bytes_of x
      obtain ⟨Y, rfl, eY⟩ := bytes_of y
      rw [eX] at hx1
      rw [eY] at hx2
      simp only [size_list] at hmo
      generalize wholeF (l.take k) = acc at hbd hmo hsn
      have HS := Lib.hid hsn
      have hbd1 := hbd.alloc (.cells #[.int .i64 c, .string X, .string Y, .int .i64 q] 30)
      have hbl1 := hbl.alloc hz (.cells #[.int .i64 c, .string X, .string Y, .int .i64 q] 30)
      clear hcell hf hsn eX eY
      go_wp2_with (go_at_call 15; refine (write_any w.heap.size w.heap.size acc (X ++ Y) _ hbd1 ?c1 ?c2).mono ?_)
      case c1 => simp only [ByteArray.size_append]; omega
      case c2 => simp; omega
      rintro e w2 ⟨rfl, hbd2, hb2, ho2⟩
      rw [append_list, ← HS.out] at hbd2
      clear ho2
      go_wp2
      go_roundw
      case rel => exact ⟨k + 1, by omega, by go_num, hbd2, hbl1.trans hb2⟩
      case measure => simp [intOf]; omega
    · have hkl : k = l.length := by omega
      subst hkl
      rw [List.take_length] at hbd
      clear hf
      go_wp2_with (go_at_call 16; refine (bstring_any w.heap.size w.heap.size _ _ hbd hz).mono ?_; rintro e w4 ⟨rfl, hbd4, hb4, ho4⟩)
      go_ret
      exact ⟨rfl, hbl.trans hb4⟩
end Go.Proofs.YtofbhdpcpoclaaaDoor
