/- The walks of lex.word and keys. -/
import Derived.Test.YtofbhdpcpoclaaaDoorLexW3
import Derived.Shelf.Spec.SearchS
namespace Go.Proofs.YtofbhdpcpoclaaaDoor
open Go.RowKit

set_option maxHeartbeats 1000000 in
set_option maxRecDepth 100000 in
theorem keys_any (w : World) : Calls Tryd.prog 39 #[] w fun e w' => e = .returned (.agg #[.string ⟨#[97, 115, 115, 101, 114, 116]⟩, .string ⟨#[98, 111, 111, 108]⟩, .string ⟨#[101, 108, 115, 101]⟩, .string ⟨#[102, 97, 108, 115, 101]⟩, .string ⟨#[102, 117, 110]⟩, .string ⟨#[105, 102]⟩, .string ⟨#[105, 109, 112, 111, 114, 116]⟩, .string ⟨#[105, 110]⟩, .string ⟨#[105, 110, 116]⟩, .string ⟨#[108, 101, 116]⟩, .string ⟨#[110, 111, 116]⟩, .string ⟨#[112, 117, 98]⟩, .string ⟨#[114, 101, 115]⟩, .string ⟨#[116, 104, 101, 110]⟩, .string ⟨#[116, 114, 117, 101]⟩]) ∧ Below w.heap.size w w' := by
  go_enter Tryd.func39, Tryd.ntmps39
  go_wp2
  refine bodyPost_ret (v := .agg #[.string ⟨#[97, 115, 115, 101, 114, 116]⟩, .string ⟨#[98, 111, 111, 108]⟩, .string ⟨#[101, 108, 115, 101]⟩, .string ⟨#[102, 97, 108, 115, 101]⟩, .string ⟨#[102, 117, 110]⟩, .string ⟨#[105, 102]⟩, .string ⟨#[105, 109, 112, 111, 114, 116]⟩, .string ⟨#[105, 110]⟩, .string ⟨#[105, 110, 116]⟩, .string ⟨#[108, 101, 116]⟩, .string ⟨#[110, 111, 116]⟩, .string ⟨#[112, 117, 98]⟩, .string ⟨#[114, 101, 115]⟩, .string ⟨#[116, 104, 101, 110]⟩, .string ⟨#[116, 114, 117, 101]⟩]) (results_cell_row rfl _ _ w.heap.size 70 _ (0, 0) _ rfl (heap_alloc_new _ _) Tryd.underlying70 rfl (by kernel_rfl)) rfl ⟨rfl, (Below.refl _ _).alloc (Nat.le_refl _) _⟩

def keySx (x : ByteArray) (j : Nat) : ByteArray := if j < 15 then ⟨(keyL.getD j []).toArray⟩ else x

theorem key_halve : ∀ j : Fin 15, Lib.bsGo (fun t => Op.bytesLess (if t < 15 then keyL.getD t [] else keyL.getD j []) (keyL.getD j [])) 15 0 15 = j := by decide

theorem keySx_list (x : ByteArray) (j : Nat) : (keySx x j).data.toList = if j < 15 then keyL.getD j [] else x.data.toList := by
  unfold keySx
  split <;> rfl

theorem key_cells (x : ByteArray) : ∀ j, j < 15 → (#[.string ⟨#[97, 115, 115, 101, 114, 116]⟩, .string ⟨#[98, 111, 111, 108]⟩, .string ⟨#[101, 108, 115, 101]⟩, .string ⟨#[102, 97, 108, 115, 101]⟩, .string ⟨#[102, 117, 110]⟩, .string ⟨#[105, 102]⟩, .string ⟨#[105, 109, 112, 111, 114, 116]⟩, .string ⟨#[105, 110]⟩, .string ⟨#[105, 110, 116]⟩, .string ⟨#[108, 101, 116]⟩, .string ⟨#[110, 111, 116]⟩, .string ⟨#[112, 117, 98]⟩, .string ⟨#[114, 101, 115]⟩, .string ⟨#[116, 104, 101, 110]⟩, .string ⟨#[116, 114, 117, 101]⟩] : Array Value)[0 + j]? = some (.string (keySx x j))
  | 0, _ => rfl
  | 1, _ => rfl
  | 2, _ => rfl
  | 3, _ => rfl
  | 4, _ => rfl
  | 5, _ => rfl
  | 6, _ => rfl
  | 7, _ => rfl
  | 8, _ => rfl
  | 9, _ => rfl
  | 10, _ => rfl
  | 11, _ => rfl
  | 12, _ => rfl
  | 13, _ => rfl
  | 14, _ => rfl
  | n + 15, h => absurd h (by omega)

theorem key_mem (j : Nat) (hj : j < 15) : keyL.getD j [] ∈ keyL := by
  have hj0 : j < keyL.length := hj
  rw [List.getD_eq_getElem?_getD, List.getElem?_eq_getElem hj0, Option.getD_some]
  exact List.getElem_mem _

theorem key_found (x : ByteArray) : decide (Lib.bsGo (fun t => Op.bytesLess (keySx x t).toList x.toList) 15 0 15 < 15 ∧ keySx x (Lib.bsGo (fun t => Op.bytesLess (keySx x t).toList x.toList) 15 0 15) = x) = decide (x.data.toList ∈ keyL) := by
  simp only [Lib.toList_data, keySx_list]
  by_cases h : x.data.toList ∈ keyL
  · obtain ⟨j, hj0, e⟩ := List.mem_iff_getElem.1 h
    have ek : keyL.getD j [] = x.data.toList := by rw [List.getD_eq_getElem?_getD, List.getElem?_eq_getElem hj0, Option.getD_some, e]
    have hj : j < 15 := hj0
    have hk := key_halve ⟨j, hj⟩
    simp only [ek] at hk
    rw [hk, decide_eq_true h, decide_eq_true]
    refine ⟨hj, bytes_ext ?_⟩
    rw [keySx_list, if_pos hj, ek]
  · rw [decide_eq_false h, decide_eq_false]
    rintro ⟨hb, e⟩
    apply h
    rw [← e, keySx_list, if_pos hb]
    exact key_mem _ hb

def SearchOk (x : ByteArray) (w : World) (e : Ending) (w' : World) : Prop :=
  (∃ n : Nat, e = .returned (.tuple #[.int .i64 n, .bool (decide (x.data.toList ∈ keyL))])) ∧ Below w.heap.size w w'

theorem search_any (b : Nat) (x : ByteArray) (w : World) (hc : ∀ j, j < 15 → w.cell? ⟨b, 0 + j, none⟩ = some (.string (keySx x j))) :
    Calls Tryd.prog 40 #[.slice (some ⟨b, 0, none⟩) 15 15, .string x] w (SearchOk x w) := by
  refine (Any2.slices_BinarySearch_string Tryd.lays2x26 b 0 15 15 (keySx x) x w (by decide) hc).mono ?_
  rintro e w' ⟨rfl, q, rfl⟩
  rw [key_found]
  exact ⟨⟨_, rfl⟩, below_drewN (Below.refl _ _) _⟩

set_option maxHeartbeats 1000000 in
set_option maxRecDepth 100000 in
theorem word_any (s : ByteArray) (w : World) (hs : s.size ≤ 1099511627776) :
    Calls Tryd.prog 21 #[.string s] w fun e w' => e = .returned (tokV s (wordF s.data.toList)) ∧ Below w.heap.size w w' := by
  have hr := run_le insideB s
  have hn := run_list insideB s
  have hz := ext_size s _ hr
  have HR := Lib.hid (run_inside s w hs)
  by_cases h40 : 40 < runL insideB s
  · have hq : wordF s.data.toList = (0, 0, 20) := by unfold wordF; exact if_pos h40
    have HQ := Lib.hid hq
    generalize hy : s.extract 0 (runL insideB s) = y at HR hz
    have hI : (40 : Int) < ↑y.size := by omega
    clear hq hn hz
    go_enter Tryd.func21, Tryd.ntmps21
    go_wp2_with (go_at_call 37; refine HR.out.mono ?_; rintro e w1 ⟨rfl, rfl⟩)
    go_ret3
    refine ⟨ret_tok (t := wordF s.data.toList) ?_ ?_ ?_, Below.refl _ _⟩ <;> rw [HQ.out]
    · rfl
    · exact ext_none s
    · rfl
  · have hq : wordF s.data.toList = (if s.data.toList.takeWhile insideB ∈ keyL then (2, runL insideB s, 0) else (1, runL insideB s, 0)) := by unfold wordF; exact if_neg h40
    have HQ := Lib.hid hq
    generalize hy : s.extract 0 (runL insideB s) = y at HR hz hn
    have HY := Lib.hid hy
    have HN := Lib.hid hn
    have hI : ¬ (40 : Int) < ↑y.size := by omega
    clear hq hn hy hz
    go_enter Tryd.func21, Tryd.ntmps21
    go_wp2_with (first | (go_at_call 37; refine HR.out.mono ?_; rintro e w1 ⟨rfl, rfl⟩) | (go_at_call 39; refine (keys_any _).mono ?_; rintro e w2 ⟨rfl, hb⟩) | (go_at_call 40; refine (search_any _ y _ ?c1).mono ?_))
    case c1 =>
      intro j hj
      rw [Lib.cell_of_heap (heap_alloc_new _ _)]
      exact key_cells y j hj
    rintro e w3 ⟨⟨n, rfl⟩, hb3⟩
    have hbb := (hb.alloc hb.size _).trans (hb3.mono (by have := hb.size; simp; omega))
    cases hk : decide (y.data.toList ∈ keyL) with
    | true =>
      have HK := Lib.hid hk
      clear hk
      go_wp2
      go_ret3
      refine ⟨ret_tok (t := wordF s.data.toList) ?_ ?_ ?_, hbb⟩ <;> rw [HQ.out, if_pos (by rw [← HN.out]; exact of_decide_eq_true HK.out)]
      · rfl
      · exact HY.out.symm
      · rfl
    | false =>
      have HK := Lib.hid hk
      clear hk
      go_wp2
      go_ret3
      refine ⟨ret_tok (t := wordF s.data.toList) ?_ ?_ ?_, hbb⟩ <;> rw [HQ.out, if_neg (by rw [← HN.out]; exact of_decide_eq_false HK.out)]
      · rfl
      · exact HY.out.symm
      · rfl
end Go.Proofs.YtofbhdpcpoclaaaDoor
