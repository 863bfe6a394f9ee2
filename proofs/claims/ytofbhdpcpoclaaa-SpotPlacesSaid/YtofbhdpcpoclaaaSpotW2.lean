/- The walk of spot.Pick. -/
import Derived.Test.YtofbhdpcpoclaaaSpotW1
import Derived.Test.YtofbhdpcpoclaaaInfo
namespace Go.Proofs.Ytofbhdpcpoclaaa
open Go.RowKit

def strCell (x : ByteArray) : List Value := [.string x]

def picks (s : ByteArray) (l : List Span) : List ByteArray := l.map fun p => s.extract p.1.toNat p.2.toNat

theorem take_snoc {α : Type} (l : List α) (k : Nat) (h : k < l.length) : l.take (k + 1) = l.take k ++ [l[k]] := by
  rw [List.take_succ_eq_append_getElem h]

theorem picks_snoc (s : ByteArray) (l : List Span) (k : Nat) (h : k < l.length) (a b : Nat) (e : l[k] = ((a : Int), (b : Int))) :
    (picks s (l.take (k + 1))).flatMap strCell = (picks s (l.take k)).flatMap strCell ++ [.string (s.extract a b)] := by
  rw [take_snoc l k h, e]
  simp [picks, strCell]

theorem cells_one {w : World} {g : Nat} {x : Value} (h : w.cell? ⟨g, 0, none⟩ = some x) : ∀ j u, [x][j]? = some u → w.cell? ((⟨g, 0, none⟩ : Addr).add j) = some u := by
  intro j u hj
  match j, hj with
  | 0, hj => simp at hj; subst hj; simpa [Addr.add] using h

/-- What Pick gives where spans are right. -/
def PickOk (s : ByteArray) (l : List Span) (w : World) (e : Ending) (w' : World) : Prop :=
  ∃ v', e = .returned (.tuple #[v', .int .i64 0]) ∧ Rec w'.heap.size w' v' 1 strCell (picks s l) ∧ Below w.heap.size w w'

set_option maxHeartbeats 1000000 in
set_option maxRecDepth 100000 in
theorem pick_any (s : ByteArray) (v : Value) (l : List Span) (w : World)
    (hs : s.size ≤ 1099511627776) (hl : l.length ≤ 1099511627776) (hv : Rec w.heap.size w v 2 spanCells l) (hW : withinB s.size 0 l = true) :
    Calls Try.prog 13 #[.string s, v] w (PickOk s l w) := by
  obtain ⟨i0, hi, hz0, hz1, hz2⟩ := info_parts Try.infoString
  obtain ⟨ao, cap, rfl, hcap, hf⟩ := hv.form (fun _ => rfl)
  have HW := Lib.hid hW
  clear hW
  go_enter Try.func13, Try.ntmps13
  go_wp2_with (go_at_call 25; refine (within_any s _ l _ hs hl hv).mono ?_; rintro e w1 ⟨he, hb1⟩; rw [HW.out] at he; subst he)
  have hz1' := hb1.size
  go_loopw [6, 15] (fun out i wr => ∃ k : Nat, k ≤ l.length ∧ i = .int .i64 k ∧ wr.ownsRow w.heap.size 9 1 out k ((picks s (l.take k)).flatMap strCell) ∧ Below w.heap.size w wr ∧
      ∃ a : Int, 0 ≤ a ∧ withinB s.size a (l.drop k) = true) (fun _ i _ => l.length - (intOf i).toNat)
  case atStart => exact ⟨0, Nat.zero_le _, rfl, by simpa [picks] using World.ownsRow_nil _ _ _ _, hb1, 0, by omega, HW.out⟩
  case round =>
    obtain ⟨k, hk, rfl, hown, hbl, a, ha, hR⟩ := hrel
    have hz := hbl.size
    by_cases hlt : k < l.length
    · obtain ⟨b, off, rfl, hb, hcell⟩ := hf (by omega)
      have hx0 := (hbl.cell (p := ⟨b, off + k * 2, none⟩) hb).trans (hcell k 0 _ hlt rfl)
      have hx1 := (hbl.cell (p := ⟨b, off + k * 2 + 1, none⟩) hb).trans (hcell k 1 _ hlt rfl)
      rw [List.drop_eq_getElem_cons hlt] at hR
      generalize hE : l[k] = e at hx0 hx1 hR
      obtain ⟨e0, e1⟩ := e
      simp only at hx0 hx1
      obtain ⟨h1, h2, h3, h4⟩ := (withinB_cons _ _ _ _).1 hR
      simp only at h1 h2 h3 h4
      obtain ⟨n0, rfl⟩ := Int.eq_ofNat_of_zero_le (by omega : 0 ≤ e0)
      obtain ⟨n1, rfl⟩ := Int.eq_ofNat_of_zero_le (by omega : 0 ≤ e1)
      have hsn := Lib.hid (picks_snoc s l k hlt n0 n1 hE)
      have HR := Lib.hid h4
      clear hcell hf hR hE h4
      go_wp2_with (at_builtin; refine wpList_append_own _ rfl _ _ 39 rfl w.heap.size 9 i0 (.string ByteArray.empty) 1 16 Try.underlying39 hi hz0 hz1 hz2 rfl (by decide) _ _ _ rfl ((hown.alloc _).alloc _) ⟨wr.heap.size + 1, 0, none⟩ 1 1 [.string (s.extract n0 n1)] rfl rfl ?c1 ?c2 ?c3 ?c4 ?c5 ?_)
      case c1 => exact cells_one (by go_simp)
      case c2 => intro u hu; simp at hu; subst hu; rfl
      case c3 => unfold maxLen; omega
      case c4 => omega
      case c5 => simp; omega
      intro v' w2 hown' hgrow _
      rw [← hsn.out] at hown'
      have hb2 : Below w.heap.size w w2 := ((hbl.alloc hz _).alloc (by simp; omega) _).grown hgrow (by simp; omega) (fun q hq => (hown.lt q hq).1)
      clear hgrow hown
      go_wp2
      go_roundw
      case rel => exact ⟨k + 1, by omega, by go_num, hown', hb2, n1, by omega, HR.out⟩
      case measure => simp [intOf]; omega
    · have hkl : k = l.length := by omega
      subst hkl
      go_wp2
      go_ret2
      refine ⟨_, rfl, ?_, hbl⟩
      have := Sl.ofOwns hown
      simpa [Rec, picks] using this
end Go.Proofs.Ytofbhdpcpoclaaa
