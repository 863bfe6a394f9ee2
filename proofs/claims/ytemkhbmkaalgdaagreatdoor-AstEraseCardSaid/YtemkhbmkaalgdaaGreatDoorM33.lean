/- The walks of the code that the claim reaches, and the plain laws: TdumpW2, AsW, AsP, ZedW3, BytesRev. No condition of ours. -/
import Derived.Test.YtemkhbmkaalgdaaGreatDoorM25
import Derived.Test.YtemkhbmkaalgdaaGreatDoorM30
import Derived.Test.YtemkhbmkaalgdaaGreatDoorM32
import Derived.Test.YtemkhbmkaalgdaaGreatDoorM26
import Derived.Laws.BitsAllLaws
import Derived.WalkKit
import Derived.Deep.LoopGhost
import Derived.Lib.UnsafeStr
import Derived.Lib.Hide
import Derived.Shelf.RegionOpen
import Derived.Test.YtemkhbmkaalgdaaGreatDoorM08
namespace Go.Proofs.YtemkhbmkaalgdaaGreatDoor
open Go.RowKit Go
set_option maxHeartbeats 1000000 in
set_option maxRecDepth 100000 in
theorem check_yes {toks : List Tok} {nodes : List Nd} {D : List UInt8} (G : GoodT toks nodes D) (B : Nat) (tv nv : Value) (w : World) (h : TreeAt B w (.agg #[tv, nv]) toks nodes) (hB : B ≤ w.heap.size) :
    Calls Tryz.prog 35 #[.agg #[tv, nv], .int .i64 ((nodes.length : Int) - 1)] w fun e w' => e = .returned (.int .i64 0) ∧ Below w.heap.size w w' := by
  have hR := fun W (hW : Below w.heap.size w W) => right_any B tv nv toks nodes (tokR 0 toks.length) (nodes.length + 1) W (h.below (hW.mono hB)) (Nat.le_trans hB hW.size) G.few G.kids (fun _ _ _ _ => G.leaves) (by simp [tokR]; have := G.fewt; omega) (by have := G.fewt; omega)
  rw [G.right] at hR
  have hp := G.pos
  have hf := G.few
  obtain ⟨at_, ct, an, cn, hv⟩ := h.slices
  simp only [Value.agg.injEq, Array.mk.injEq, List.cons.injEq, and_true] at hv
  obtain ⟨rfl, rfl⟩ := hv
  have hI1 : ((nodes.length : Int) - 1) < (nodes.length : Int) := by omega
  have hI0 : 0 ≤ ((nodes.length : Int) - 1) := by omega
  have HR := Lib.hid hR
  have hbb := (Below.refl w.heap.size w).alloc (Nat.le_refl _) (.cells #[.slice at_ toks.length ct, .slice an nodes.length cn] 25)
  have e1 := heap_alloc_new w (.cells #[.slice at_ toks.length ct, .slice an nodes.length cn] 25)
  clear h G hR
  go_enter Tryz.func35, Tryz.ntmps35
  go_upto_region 3 with (go_at_call 62; refine (HR.out _ hbb).mono ?_; rintro e w3 ⟨rfl, hb3⟩)
  have T3 := (hb3.block w.heap.size (by simp)).trans e1
  obtain ⟨c0, c1⟩ := tree_cells T3
  have hb4 := hbb.trans (hb3.mono (by simp))
  clear hb3 e1 T3 HR hbb
  go_wp2
  go_ret
  exact ⟨rfl, hb4⟩
set_option maxHeartbeats 1000000 in
set_option maxRecDepth 100000 in
theorem dump_yes {toks : List Tok} {nodes : List Nd} {D : List UInt8} (G : GoodT toks nodes D) (B : Nat) (tv nv : Value) (w : World) (h : TreeAt B w (.agg #[tv, nv]) toks nodes) (hB : B ≤ w.heap.size) :
    Calls Tryz.prog 12 #[.agg #[tv, nv], .int .i64 ((nodes.length : Int) - 1)] w fun e w' => e = .returned (.tuple #[.string ⟨D.toArray⟩, .int .i64 0]) ∧ Below w.heap.size w w' := by
  have HR := Lib.hid (fun W (hW : Below w.heap.size w W) => check_yes G B tv nv W (h.below (hW.mono hB)) (Nat.le_trans hB hW.size))
  have hdl := G.dlen
  have HD := Lib.hid (fun W (hW : Below w.heap.size w W) => tdump_any G B W.heap.size W.heap.size tv nv nodes.length ((nodes.length : Int) - 1) D [] (W.alloc (.cells #[.pointer none, .slice none 0 0] 102)) (h.below ((hW.alloc hW.size _).mono hB)) (Nat.le_trans hB hW.size) (Bld.fresh W) (by simp) G.dump (by rw [List.length_nil]; omega))
  obtain ⟨at_, ct, an, cn, hv⟩ := h.slices
  simp only [Value.agg.injEq, Array.mk.injEq, List.cons.injEq, and_true] at hv
  obtain ⟨rfl, rfl⟩ := hv
  have hbb := (Below.refl w.heap.size w).alloc (Nat.le_refl _) (.cells #[.slice at_ toks.length ct, .slice an nodes.length cn] 25)
  have e1 := heap_alloc_new w (.cells #[.slice at_ toks.length ct, .slice an nodes.length cn] 25)
  clear h G
  go_enter Tryz.func12, Tryz.ntmps12
  go_upto_region 4 with (go_at_call 35; refine (HR.out _ hbb).mono ?_; rintro e w3 ⟨rfl, hb3⟩)
  have T3 := (hb3.block w.heap.size (by simp)).trans e1
  have hb4 := hbb.trans (hb3.mono (by simp))
  have HD3 := Lib.hid (HD.out w3 hb4)
  have T4 := (Lib.alloc_old w3 (.cells #[.pointer none, .slice none 0 0] 102) w.heap.size (Array.getElem?_eq_some_iff.1 T3).1).trans T3
  have hb5 := hb4.alloc hb4.size (.cells #[.pointer none, .slice none 0 0] 102)
  obtain ⟨c0, c1⟩ := tree_cells T4
  have hz3 := hb4.size
  clear hb3 e1 T3 T4 HR hbb HD
  go_wp2_with (first | (go_at_call 36; refine HD3.out.mono ?_; rintro e w6 ⟨rfl, hbd6, hl6, ho6⟩; rw [List.nil_append] at hbd6; have hz6 := hl6.size; simp only [World.size_alloc] at hz6) | (go_at_call 37; refine (bstring_any w3.heap.size w3.heap.size D _ hbd6 (by omega)).mono ?_; rintro e w7 ⟨rfl, hbd7, hl7, ho7⟩))
  go_ret2
  exact ⟨rfl, hb5.trans ((hl6.mono hz3).trans (hl7.mono hz3))⟩
set_option maxHeartbeats 1000000 in
set_option maxRecDepth 100000 in
theorem show_any (B : Nat) (tv nv : Value) (toks : List Tok) (w : World) (hl : toks.length ≤ 1099511627776) (hn : tokAt toks toks.length ≤ 1099511627776) (h : Rec B w tv 4 tokCells toks) (hB : B ≤ w.heap.size) :
    Calls Tryz.prog 11 #[.agg #[tv, nv]] w fun e w' => e = .returned (.string ⟨(wholeF toks).toArray⟩) ∧ Below w.heap.size w w' := by
  have HW := Lib.hid (fun W (hW : Below w.heap.size w W) => whole_any tv toks W hl hn ((h.below (hW.mono hB)).mono (Nat.le_trans hB hW.size)))
  obtain ⟨X, hX, eX⟩ := bytes_of (wholeF toks)
  rw [eX] at HW ⊢
  have hbb := (Below.refl w.heap.size w).alloc (Nat.le_refl _) (.cells #[tv, nv] 25)
  clear h
  go_enter Tryz.func11, Tryz.ntmps11
  go_wp2_with (go_at_call 34; refine (HW.out _ hbb).mono ?_; rintro e w3 ⟨rfl, hb3⟩)
  go_ret
  exact ⟨rfl, hbb.trans (hb3.mono (by simp))⟩
end Go.Proofs.YtemkhbmkaalgdaaGreatDoor

namespace Go.Proofs.YtemkhbmkaalgdaaGreatDoor
open Go.RowKit Go
theorem root_tree (at_ : Option Addr) (nt ct : Nat) (an : Option Addr) (n cn : Nat) (w : World) (hn : n ≤ 1099511627776) :
    Calls Tryz.prog 13 #[.agg #[.slice at_ nt ct, .slice an n cn]] w fun e w' => e = .returned (.int .i64 ((n : Int) - 1)) ∧ Below w.heap.size w w' := root_any _ an n cn w hn
set_option maxHeartbeats 2000000 in
set_option maxRecDepth 100000 in
theorem as_yes (B : Nat) (at_ : Option Addr) (ct : Nat) (an : Option Addr) (cn : Nat) (S : ByteArray) (toks : List Tok) (nodes : List Nd) (D : List UInt8) (w : World) (h : TreeAt B w (.agg #[.slice at_ toks.length ct, .slice an nodes.length cn]) toks nodes) (hB : B ≤ w.heap.size)
    (G : GoodT toks nodes D) (hS : S.size ≤ 65536) (hw : wholeF toks = S.data.toList) (hf : formF S.data.toList 200 = .good toks nodes) :
    Calls Tryz.prog 28 #[.agg #[.slice at_ toks.length ct, .slice an nodes.length cn], .func (.func 25) #[] #[]] w fun e w' => e = .returned (.bool true) ∧ Below w.heap.size w w' := by
  have hft := G.fewt
  have hfn := G.few
  obtain ⟨XD, hXD, eX⟩ := bytes_of D
  have HDump : Hid (∀ (B : Nat) (at_ : Option Addr) (ct : Nat) (an : Option Addr) (cn : Nat) (W : World), TreeAt B W (.agg #[.slice at_ toks.length ct, .slice an nodes.length cn]) toks nodes → B ≤ W.heap.size → Calls Tryz.prog 12 #[.agg #[.slice at_ toks.length ct, .slice an nodes.length cn], .int .i64 ((nodes.length : Int) - 1)] W fun e w' => e = .returned (.tuple #[.string XD, .int .i64 0]) ∧ Below W.heap.size W w') :=
    Lib.hid fun B at_ ct an cn W hT hBW => (dump_yes G B _ _ W hT hBW).mono fun e w' h => ⟨by rw [h.1, eX], h.2⟩
  have hlen : tokAt toks toks.length ≤ 1099511627776 := by
    rw [← wholeF_len, hw, size_list]
    omega
  have eS : ByteArray.mk (S.data.toList).toArray = S := by cases S; simp
  have HShow : Hid (∀ W, Below w.heap.size w W → Calls Tryz.prog 11 #[.agg #[.slice at_ toks.length ct, .slice an nodes.length cn]] W fun e w' => e = .returned (.string S) ∧ Below W.heap.size W w') := Lib.hid fun W hW => by
    obtain ⟨tv', nv', l, e1, e2, _⟩ := h.below (hW.mono hB)
    simp only [Value.agg.injEq, Array.mk.injEq, List.cons.injEq, and_true] at e1
    obtain ⟨rfl, rfl⟩ := e1
    have := show_any B (.slice at_ toks.length ct) (.slice an nodes.length cn) toks W (by omega) hlen e2 (Nat.le_trans hB hW.size)
    rw [hw, eS] at this
    exact this
  have HForm := Lib.hid (fun W => formula_any S 200 W (by omega) (by omega) (by omega))
  rw [hf] at HForm
  have HT := Lib.hid h
  have hal := below_new w (.cells #[.slice at_ toks.length ct, .slice an nodes.length cn] 25)
  have e1 := heap_alloc_new w (.cells #[.slice at_ toks.length ct, .slice an nodes.length cn] 25)
  clear h G hf hw hXD eX eS hlen
  go_enter Tryz.func28, Tryz.ntmps28
  go_upto_region 1 with fail
  generalize w.alloc _ = w1 at hal e1 ⊢
  obtain ⟨c0, c1⟩ := tree_cells e1
  have hl1 := (Array.getElem?_eq_some_iff.1 e1).1
  go_cut [5, 6] (fun a e wx => a = .string XD ∧ e = .int .i64 0 ∧ wx.heap[w.heap.size]? = some (.cells #[.slice at_ toks.length ct, .slice an nodes.length cn] 25 (0, 0)) ∧ Below w.heap.size w wx)
  case first =>
    go_region_with (first | (go_at_call 13; refine (root_tree at_ toks.length ct an nodes.length cn _ (by omega)).mono ?_; rintro e w5 ⟨rfl, hb5⟩; have d0 := (hb5.cell (p := ⟨w.heap.size, 0, none⟩) hl1).trans c0; have d1 := (hb5.cell (p := ⟨w.heap.size, 1, none⟩) hl1).trans c1) | (go_at_call 12; refine (HDump.out B at_ ct an cn _ (HT.out.below ((hal.drew.trans (hb5.mono hal.size)).mono hB)) (Nat.le_trans hB (hal.drew.trans (hb5.mono hal.size)).size)).mono ?_; rintro e w6 ⟨rfl, hb6⟩))
    all_goals
      have hb56 := hal.drew.trans (hb5.mono hal.size)
      have T6 := (hb6.block w.heap.size (Nat.lt_of_lt_of_le hl1 hb5.size)).trans ((hb5.block w.heap.size hl1).trans e1)
      go_wp2_with fail
      go_meet
      exact ⟨rfl, rfl, T6, hb56.trans (hb6.mono hb56.size)⟩
  case rest =>
    obtain ⟨rfl, rfl, hT, hbc⟩ := hcut
    clear hal e1 c0 c1 hl1 w1
    obtain ⟨wo, rfl⟩ : ∃ wo : World, wo = wc := ⟨_, rfl⟩
    obtain ⟨c0, c1⟩ := tree_cells hT
    go_upto_region 3 with (first | (go_at_call 11; refine (HShow.out _ hbc).mono ?_; rintro e w7 ⟨rfl, hb7⟩) | (go_at_call 25; refine (HForm.out _).mono ?_; rintro e w8 ⟨hb8, a8, c8, b8, d8, rfl, ht8⟩))
    have hb78 := (hbc.trans (hb7.mono hbc.size))
    have hb88 := hb78.trans (hb8.mono hb78.size)
    have hT8 := (hb8.block w.heap.size (Nat.lt_of_lt_of_le (Array.getElem?_eq_some_iff.1 hT).1 hb7.size)).trans ((hb7.block w.heap.size (Array.getElem?_eq_some_iff.1 hT).1).trans hT)
    have hlt8 := (Array.getElem?_eq_some_iff.1 hT8).1
    have hal9 := (below_new w8 (.cells #[.slice a8 toks.length c8, .slice b8 nodes.length d8] 25)).alloc (by simp) (.cells #[.int .i64 0, .int .i64 0] 44)
    have hT9 := (hal9.block w.heap.size hlt8).trans hT8
    have hU9 := (Lib.alloc_old (w8.alloc (.cells #[.slice a8 toks.length c8, .slice b8 nodes.length d8] 25)) (.cells #[.int .i64 0, .int .i64 0] 44) w8.heap.size (by simp)).trans (heap_alloc_new w8 (.cells #[.slice a8 toks.length c8, .slice b8 nodes.length d8] 25))
    have hF9 := heap_alloc_new (w8.alloc (.cells #[.slice a8 toks.length c8, .slice b8 nodes.length d8] 25)) (.cells #[.int .i64 0, .int .i64 0] 44)
    rw [World.size_alloc] at hF9
    have hU := Lib.hid (ht8.at.below hal9)
    have hb9 := hb88.trans (hal9.mono hb88.size)
    have hz9 := hal9.size
    clear hb7 hb8 hT8 hal9 ht8 hb78 hT hbc c0 c1 HShow HForm
    generalize w8.heap.size = ub at hU9 hF9 hU hz9 hlt8 hb88 ⊢
    generalize (w8.alloc _).alloc _ = w9 at hT9 hU9 hF9 hU hb9 hz9 ⊢
    obtain ⟨c0, c1⟩ := tree_cells hU9
    have hl9 := (Array.getElem?_eq_some_iff.1 hU9).1
    have hlT := (Array.getElem?_eq_some_iff.1 hT9).1
    have hlF := (Array.getElem?_eq_some_iff.1 hF9).1
    go_cut [9, 10] (fun a e wx => a = .string XD ∧ e = .int .i64 0 ∧ Below w9.heap.size w9 wx)
    case first =>
      go_region_with (first | (go_at_call 13; refine (root_tree a8 toks.length c8 b8 nodes.length d8 _ (by omega)).mono ?_; rintro e w5 ⟨rfl, hb5⟩; have d0 := (hb5.cell (p := ⟨ub, 0, none⟩) hl9).trans c0; have d1 := (hb5.cell (p := ⟨ub, 1, none⟩) hl9).trans c1) | (go_at_call 12; refine (HDump.out ub a8 c8 b8 d8 _ (hU.out.below (((Below.refl w9.heap.size w9).drew.trans hb5).mono hz9)) (Nat.le_trans hz9 hb5.size)).mono ?_; rintro e w6 ⟨rfl, hb6⟩))
      all_goals
        have hb56 := (Below.refl w9.heap.size w9).drew.trans hb5
        go_wp2_with fail
        go_meet
        exact ⟨rfl, rfl, hb56.trans (hb6.mono hb56.size)⟩
    case rest =>
      obtain ⟨rfl, rfl, hbc⟩ := hcut
      have hTc := (hbc.block _ hlT).trans hT9
      have hUc := (hbc.block _ hl9).trans hU9
      have hFc := (hbc.block _ hlF).trans hF9
      have HU := Lib.hid (hU.out.below (hbc.mono hz9))
      have hbw : Below w.heap.size w wc := hb9.trans (hbc.mono hb9.size)
      have HT2 := Lib.hid (HT.out.below (hbw.mono hB))
      clear hT9 hU9 hF9 hU hb9 hz9 hlt8 hb88 c0 c1 hl9 hlT hlF hbc HDump HT
      obtain ⟨wo, rfl⟩ : ∃ wo : World, wo = wc := ⟨_, rfl⟩
      obtain ⟨c0, c1⟩ := tree_cells hTc
      obtain ⟨u0, u1⟩ := tree_cells hUc
      obtain ⟨f0, f1, _⟩ := fault_cells hFc
      have hlU := (Array.getElem?_eq_some_iff.1 hUc).1
      have hzo := hbw.size
      go_wp2
      clear c0 c1 u0 u1 f0 f1
      go_loopw [58] (fun q wr => ∃ k : Nat, k ≤ toks.length ∧ q = .int .i64 k ∧ Below wo.heap.size wo wr) (fun q _ => toks.length - (intOf q).toNat)
      case atStart => exact ⟨0, Nat.zero_le _, rfl, Below.refl _ _⟩
      case round =>
        obtain ⟨k, hk, rfl, hbl⟩ := hrel
        have hwz := hbl.size
        by_cases hlt : k < toks.length
        · obtain ⟨b1, o1, cap1, ev, hb1, t0, t1, t2, t3⟩ := HT2.out.tok hlt
          simp only [Value.slice.injEq] at ev
          obtain ⟨rfl, -, rfl⟩ := ev
          obtain ⟨b2, o2, cap2, ev, hb2, s0, s1, s2, s3⟩ := HU.out.tok hlt
          simp only [Value.slice.injEq] at ev
          obtain ⟨rfl, -, rfl⟩ := ev
          have x0 := (hbl.cell (p := ⟨b1, o1 + k * 4, none⟩) (by show b1 < _; omega)).trans t0
          have x1 := (hbl.cell (p := ⟨b1, o1 + k * 4 + 1, none⟩) (by show b1 < _; omega)).trans t1
          have x2 := (hbl.cell (p := ⟨b1, o1 + k * 4 + 2, none⟩) (by show b1 < _; omega)).trans t2
          have x3 := (hbl.cell (p := ⟨b1, o1 + k * 4 + 3, none⟩) (by show b1 < _; omega)).trans t3
          generalize toks[k] = tk at x0 x1 x2 x3 s0 s1 s2 s3
          simp only [strV] at x1 x2 s1 s2
          have hal := below_new wr (.cells #[.int .i64 tk.kind, .string ⟨tk.lead.toArray⟩, .string ⟨tk.text.toArray⟩, .int .i64 tk.place] 83)
          have hba := hbl.trans (hal.mono hwz)
          have y0 := (hba.cell (p := ⟨b2, o2 + k * 4, none⟩) (by show b2 < _; omega)).trans s0
          have y1 := (hba.cell (p := ⟨b2, o2 + k * 4 + 1, none⟩) (by show b2 < _; omega)).trans s1
          have y2 := (hba.cell (p := ⟨b2, o2 + k * 4 + 2, none⟩) (by show b2 < _; omega)).trans s2
          have y3 := (hba.cell (p := ⟨b2, o2 + k * 4 + 3, none⟩) (by show b2 < _; omega)).trans s3
          have U2 := (hba.block ub hlU).trans hUc
          have N2 := heap_alloc_new wr (.cells #[.int .i64 tk.kind, .string ⟨tk.lead.toArray⟩, .string ⟨tk.text.toArray⟩, .int .i64 tk.place] 83)
          have hkI : (k : Int) < (toks.length : Int) := by omega
          clear t0 t1 t2 t3 s0 s1 s2 s3 hal
          go_upto_region 9 with fail
          clear x0 x1 x2 x3
          generalize wr.heap.size = nb at N2 ⊢
          generalize wr.alloc _ = w2 at hba y0 y1 y2 y3 U2 N2 ⊢
          obtain ⟨d0, d1⟩ := tree_cells U2
          have n0 : w2.cell? ⟨nb, 0, none⟩ = some (.int .i64 tk.kind) := by rw [Lib.cell_of_heap N2]; rfl
          have n1 : w2.cell? ⟨nb, 1, none⟩ = some (.string ⟨tk.lead.toArray⟩) := by rw [Lib.cell_of_heap N2]; rfl
          have n2 : w2.cell? ⟨nb, 2, none⟩ = some (.string ⟨tk.text.toArray⟩) := by rw [Lib.cell_of_heap N2]; rfl
          have n3 : w2.cell? ⟨nb, 3, none⟩ = some (.int .i64 tk.place) := by rw [Lib.cell_of_heap N2]; rfl
          clear N2 U2
          go_quiet (fail)
          go_wp2
          go_roundw
          case rel => exact ⟨k + 1, by omega, by go_num, below_drewN hba _⟩
          case measure => simp [intOf]; omega
        · obtain rfl : k = toks.length := by omega
          have hkI : decide ((toks.length : Int) < (toks.length : Int)) = false := decide_eq_false (by omega)
          go_wp2
          go_ret
          exact ⟨rfl, hbw.trans (hbl.mono hzo)⟩
end Go.Proofs.YtemkhbmkaalgdaaGreatDoor

namespace Go.Proofs.YtemkhbmkaalgdaaGreatDoor
open Go.RowKit Go
set_option maxHeartbeats 2000000 in
set_option maxRecDepth 100000 in
theorem asP_yes (B : Nat) (at_ : Option Addr) (ct : Nat) (an : Option Addr) (cn : Nat) (S : ByteArray) (toks : List Tok) (nodes : List Nd) (D : List UInt8) (w : World) (h : TreeAt B w (.agg #[.slice at_ toks.length ct, .slice an nodes.length cn]) toks nodes) (hB : B ≤ w.heap.size)
    (G : GoodT toks nodes D) (hS : S.size ≤ 65536) (hw : wholeF toks = S.data.toList) (hf : progF S.data.toList 200 = .good toks nodes) :
    Calls Tryz.prog 28 #[.agg #[.slice at_ toks.length ct, .slice an nodes.length cn], .func (.func 10) #[] #[]] w fun e w' => e = .returned (.bool true) ∧ Below w.heap.size w w' := by
  have hft := G.fewt
  have hfn := G.few
  obtain ⟨XD, hXD, eX⟩ := bytes_of D
  have HDump : Hid (∀ (B : Nat) (at_ : Option Addr) (ct : Nat) (an : Option Addr) (cn : Nat) (W : World), TreeAt B W (.agg #[.slice at_ toks.length ct, .slice an nodes.length cn]) toks nodes → B ≤ W.heap.size → Calls Tryz.prog 12 #[.agg #[.slice at_ toks.length ct, .slice an nodes.length cn], .int .i64 ((nodes.length : Int) - 1)] W fun e w' => e = .returned (.tuple #[.string XD, .int .i64 0]) ∧ Below W.heap.size W w') :=
    Lib.hid fun B at_ ct an cn W hT hBW => (dump_yes G B _ _ W hT hBW).mono fun e w' h => ⟨by rw [h.1, eX], h.2⟩
  have hlen : tokAt toks toks.length ≤ 1099511627776 := by
    rw [← wholeF_len, hw, size_list]
    omega
  have eS : ByteArray.mk (S.data.toList).toArray = S := by cases S; simp
  have HShow : Hid (∀ W, Below w.heap.size w W → Calls Tryz.prog 11 #[.agg #[.slice at_ toks.length ct, .slice an nodes.length cn]] W fun e w' => e = .returned (.string S) ∧ Below W.heap.size W w') := Lib.hid fun W hW => by
    obtain ⟨tv', nv', l, e1, e2, _⟩ := h.below (hW.mono hB)
    simp only [Value.agg.injEq, Array.mk.injEq, List.cons.injEq, and_true] at e1
    obtain ⟨rfl, rfl⟩ := e1
    have := show_any B (.slice at_ toks.length ct) (.slice an nodes.length cn) toks W (by omega) hlen e2 (Nat.le_trans hB hW.size)
    rw [hw, eS] at this
    exact this
  have HForm := Lib.hid (fun W => parse_any S 200 W (by omega) (by omega) (by omega))
  rw [hf] at HForm
  have HT := Lib.hid h
  have hal := below_new w (.cells #[.slice at_ toks.length ct, .slice an nodes.length cn] 25)
  have e1 := heap_alloc_new w (.cells #[.slice at_ toks.length ct, .slice an nodes.length cn] 25)
  clear h G hf hw hXD eX eS hlen
  go_enter Tryz.func28, Tryz.ntmps28
  go_upto_region 1 with fail
  generalize w.alloc _ = w1 at hal e1 ⊢
  obtain ⟨c0, c1⟩ := tree_cells e1
  have hl1 := (Array.getElem?_eq_some_iff.1 e1).1
  go_cut [5, 6] (fun a e wx => a = .string XD ∧ e = .int .i64 0 ∧ wx.heap[w.heap.size]? = some (.cells #[.slice at_ toks.length ct, .slice an nodes.length cn] 25 (0, 0)) ∧ Below w.heap.size w wx)
  case first =>
    go_region_with (first | (go_at_call 13; refine (root_tree at_ toks.length ct an nodes.length cn _ (by omega)).mono ?_; rintro e w5 ⟨rfl, hb5⟩; have d0 := (hb5.cell (p := ⟨w.heap.size, 0, none⟩) hl1).trans c0; have d1 := (hb5.cell (p := ⟨w.heap.size, 1, none⟩) hl1).trans c1) | (go_at_call 12; refine (HDump.out B at_ ct an cn _ (HT.out.below ((hal.drew.trans (hb5.mono hal.size)).mono hB)) (Nat.le_trans hB (hal.drew.trans (hb5.mono hal.size)).size)).mono ?_; rintro e w6 ⟨rfl, hb6⟩))
    all_goals
      have hb56 := hal.drew.trans (hb5.mono hal.size)
      have T6 := (hb6.block w.heap.size (Nat.lt_of_lt_of_le hl1 hb5.size)).trans ((hb5.block w.heap.size hl1).trans e1)
      go_wp2_with fail
      go_meet
      exact ⟨rfl, rfl, T6, hb56.trans (hb6.mono hb56.size)⟩
  case rest =>
    obtain ⟨rfl, rfl, hT, hbc⟩ := hcut
    clear hal e1 c0 c1 hl1 w1
    obtain ⟨wo, rfl⟩ : ∃ wo : World, wo = wc := ⟨_, rfl⟩
    obtain ⟨c0, c1⟩ := tree_cells hT
    go_upto_region 3 with (first | (go_at_call 11; refine (HShow.out _ hbc).mono ?_; rintro e w7 ⟨rfl, hb7⟩) | (go_at_call 10; refine (HForm.out _).mono ?_; rintro e w8 ⟨hb8, a8, c8, b8, d8, rfl, ht8⟩))
    have hb78 := (hbc.trans (hb7.mono hbc.size))
    have hb88 := hb78.trans (hb8.mono hb78.size)
    have hT8 := (hb8.block w.heap.size (Nat.lt_of_lt_of_le (Array.getElem?_eq_some_iff.1 hT).1 hb7.size)).trans ((hb7.block w.heap.size (Array.getElem?_eq_some_iff.1 hT).1).trans hT)
    have hlt8 := (Array.getElem?_eq_some_iff.1 hT8).1
    have hal9 := (below_new w8 (.cells #[.slice a8 toks.length c8, .slice b8 nodes.length d8] 25)).alloc (by simp) (.cells #[.int .i64 0, .int .i64 0] 44)
    have hT9 := (hal9.block w.heap.size hlt8).trans hT8
    have hU9 := (Lib.alloc_old (w8.alloc (.cells #[.slice a8 toks.length c8, .slice b8 nodes.length d8] 25)) (.cells #[.int .i64 0, .int .i64 0] 44) w8.heap.size (by simp)).trans (heap_alloc_new w8 (.cells #[.slice a8 toks.length c8, .slice b8 nodes.length d8] 25))
    have hF9 := heap_alloc_new (w8.alloc (.cells #[.slice a8 toks.length c8, .slice b8 nodes.length d8] 25)) (.cells #[.int .i64 0, .int .i64 0] 44)
    rw [World.size_alloc] at hF9
    have hU := Lib.hid (ht8.at.below hal9)
    have hb9 := hb88.trans (hal9.mono hb88.size)
    have hz9 := hal9.size
    clear hb7 hb8 hT8 hal9 ht8 hb78 hT hbc c0 c1 HShow HForm
    generalize w8.heap.size = ub at hU9 hF9 hU hz9 hlt8 hb88 ⊢
    generalize (w8.alloc _).alloc _ = w9 at hT9 hU9 hF9 hU hb9 hz9 ⊢
    obtain ⟨c0, c1⟩ := tree_cells hU9
    have hl9 := (Array.getElem?_eq_some_iff.1 hU9).1
    have hlT := (Array.getElem?_eq_some_iff.1 hT9).1
    have hlF := (Array.getElem?_eq_some_iff.1 hF9).1
    go_cut [9, 10] (fun a e wx => a = .string XD ∧ e = .int .i64 0 ∧ Below w9.heap.size w9 wx)
    case first =>
      go_region_with (first | (go_at_call 13; refine (root_tree a8 toks.length c8 b8 nodes.length d8 _ (by omega)).mono ?_; rintro e w5 ⟨rfl, hb5⟩; have d0 := (hb5.cell (p := ⟨ub, 0, none⟩) hl9).trans c0; have d1 := (hb5.cell (p := ⟨ub, 1, none⟩) hl9).trans c1) | (go_at_call 12; refine (HDump.out ub a8 c8 b8 d8 _ (hU.out.below (((Below.refl w9.heap.size w9).drew.trans hb5).mono hz9)) (Nat.le_trans hz9 hb5.size)).mono ?_; rintro e w6 ⟨rfl, hb6⟩))
      all_goals
        have hb56 := (Below.refl w9.heap.size w9).drew.trans hb5
        go_wp2_with fail
        go_meet
        exact ⟨rfl, rfl, hb56.trans (hb6.mono hb56.size)⟩
    case rest =>
      obtain ⟨rfl, rfl, hbc⟩ := hcut
      have hTc := (hbc.block _ hlT).trans hT9
      have hUc := (hbc.block _ hl9).trans hU9
      have hFc := (hbc.block _ hlF).trans hF9
      have HU := Lib.hid (hU.out.below (hbc.mono hz9))
      have hbw : Below w.heap.size w wc := hb9.trans (hbc.mono hb9.size)
      have HT2 := Lib.hid (HT.out.below (hbw.mono hB))
      clear hT9 hU9 hF9 hU hb9 hz9 hlt8 hb88 c0 c1 hl9 hlT hlF hbc HDump HT
      obtain ⟨wo, rfl⟩ : ∃ wo : World, wo = wc := ⟨_, rfl⟩
      obtain ⟨c0, c1⟩ := tree_cells hTc
      obtain ⟨u0, u1⟩ := tree_cells hUc
      obtain ⟨f0, f1, _⟩ := fault_cells hFc
      have hlU := (Array.getElem?_eq_some_iff.1 hUc).1
      have hzo := hbw.size
      go_wp2
      clear c0 c1 u0 u1 f0 f1
      go_loopw [58] (fun q wr => ∃ k : Nat, k ≤ toks.length ∧ q = .int .i64 k ∧ Below wo.heap.size wo wr) (fun q _ => toks.length - (intOf q).toNat)
      case atStart => exact ⟨0, Nat.zero_le _, rfl, Below.refl _ _⟩
      case round =>
        obtain ⟨k, hk, rfl, hbl⟩ := hrel
        have hwz := hbl.size
        by_cases hlt : k < toks.length
        · obtain ⟨b1, o1, cap1, ev, hb1, t0, t1, t2, t3⟩ := HT2.out.tok hlt
          simp only [Value.slice.injEq] at ev
          obtain ⟨rfl, -, rfl⟩ := ev
          obtain ⟨b2, o2, cap2, ev, hb2, s0, s1, s2, s3⟩ := HU.out.tok hlt
          simp only [Value.slice.injEq] at ev
          obtain ⟨rfl, -, rfl⟩ := ev
          have x0 := (hbl.cell (p := ⟨b1, o1 + k * 4, none⟩) (by show b1 < _; omega)).trans t0
          have x1 := (hbl.cell (p := ⟨b1, o1 + k * 4 + 1, none⟩) (by show b1 < _; omega)).trans t1
          have x2 := (hbl.cell (p := ⟨b1, o1 + k * 4 + 2, none⟩) (by show b1 < _; omega)).trans t2
          have x3 := (hbl.cell (p := ⟨b1, o1 + k * 4 + 3, none⟩) (by show b1 < _; omega)).trans t3
          generalize toks[k] = tk at x0 x1 x2 x3 s0 s1 s2 s3
          simp only [strV] at x1 x2 s1 s2
          have hal := below_new wr (.cells #[.int .i64 tk.kind, .string ⟨tk.lead.toArray⟩, .string ⟨tk.text.toArray⟩, .int .i64 tk.place] 83)
          have hba := hbl.trans (hal.mono hwz)
          have y0 := (hba.cell (p := ⟨b2, o2 + k * 4, none⟩) (by show b2 < _; omega)).trans s0
          have y1 := (hba.cell (p := ⟨b2, o2 + k * 4 + 1, none⟩) (by show b2 < _; omega)).trans s1
          have y2 := (hba.cell (p := ⟨b2, o2 + k * 4 + 2, none⟩) (by show b2 < _; omega)).trans s2
          have y3 := (hba.cell (p := ⟨b2, o2 + k * 4 + 3, none⟩) (by show b2 < _; omega)).trans s3
          have U2 := (hba.block ub hlU).trans hUc
          have N2 := heap_alloc_new wr (.cells #[.int .i64 tk.kind, .string ⟨tk.lead.toArray⟩, .string ⟨tk.text.toArray⟩, .int .i64 tk.place] 83)
          have hkI : (k : Int) < (toks.length : Int) := by omega
          clear t0 t1 t2 t3 s0 s1 s2 s3 hal
          go_upto_region 9 with fail
          clear x0 x1 x2 x3
          generalize wr.heap.size = nb at N2 ⊢
          generalize wr.alloc _ = w2 at hba y0 y1 y2 y3 U2 N2 ⊢
          obtain ⟨d0, d1⟩ := tree_cells U2
          have n0 : w2.cell? ⟨nb, 0, none⟩ = some (.int .i64 tk.kind) := by rw [Lib.cell_of_heap N2]; rfl
          have n1 : w2.cell? ⟨nb, 1, none⟩ = some (.string ⟨tk.lead.toArray⟩) := by rw [Lib.cell_of_heap N2]; rfl
          have n2 : w2.cell? ⟨nb, 2, none⟩ = some (.string ⟨tk.text.toArray⟩) := by rw [Lib.cell_of_heap N2]; rfl
          have n3 : w2.cell? ⟨nb, 3, none⟩ = some (.int .i64 tk.place) := by rw [Lib.cell_of_heap N2]; rfl
          clear N2 U2
          go_quiet (fail)
          go_wp2
          go_roundw
          case rel => exact ⟨k + 1, by omega, by go_num, below_drewN hba _⟩
          case measure => simp [intOf]; omega
        · obtain rfl : k = toks.length := by omega
          have hkI : decide ((toks.length : Int) < (toks.length : Int)) = false := decide_eq_false (by omega)
          go_wp2
          go_ret
          exact ⟨rfl, hbw.trans (hbl.mono hzo)⟩
end Go.Proofs.YtemkhbmkaalgdaaGreatDoor

namespace Go.Proofs.YtemkhbmkaalgdaaGreatDoor
open Go.RowKit Go
theorem or_words (r x : Nat) (hr : r < 4294967296) (hx : x < 4294967296) : bits BinOp.or IntKind.u64 ((r : Int) * 4294967296) (x : Int) = (r : Int) * 4294967296 + (x : Int) := by
  have e : ((r : Int) * 4294967296) = ((r * 4294967296 : Nat) : Int) := by omega
  have h : (r * 4294967296) ||| x = r * 4294967296 + x := by
    rw [show (4294967296 : Nat) = 2 ^ 32 from rfl, ← Nat.shiftLeft_eq, Nat.shiftLeft_add_eq_or_of_lt (by omega)]
  rw [e, u64_or_nat _ _ (by omega) (by omega), h]
  omega
theorem set_last {α : Type} (z v : α) (k : Nat) (L : List α) : (List.replicate (k + 1) z ++ L).set k v = List.replicate k z ++ v :: L := by
  rw [List.replicate_succ', List.append_assoc, List.set_append_right _ _ (by simp), List.length_replicate, Nat.sub_self]
  rfl
def ShortPost (b : Nat) (ws : List Nat) (w : World) (e : Ending) (w' : World) : Prop :=
  ∃ cap, e = .returned (.tuple #[.slice (some ⟨w.heap.size, 0, none⟩) (trimW (shortF b ws).1).length cap, .int .u64 ((shortF b ws).2 : Nat)]) ∧ Wd (fun k => w.heap.size ≤ k) w' (.slice (some ⟨w.heap.size, 0, none⟩) (trimW (shortF b ws).1).length cap) (trimW (shortF b ws).1) ∧ Below w.heap.size w w'
set_option maxHeartbeats 1000000 in
set_option maxRecDepth 100000 in
theorem zshort_any (P : Nat → Prop) (ao : Option Addr) (cap : Nat) (ws : List Nat) (b : Nat) (w : World) (h : Wd P w (.slice ao ws.length cap) ws) (hw : ∀ x ∈ ws, x < 4294967296) (hb : 0 < b) (hb9 : b ≤ 1000000000) (hn : ws.length ≤ 1000) :
    Calls Tryz.prog 100 #[.slice ao ws.length cap, .int .u64 b] w (ShortPost b ws w) := by
  obtain ⟨i0, hi, hz0, hz1, hz2⟩ := info_parts Tryz.infoU32
  obtain ⟨ao', cap', hv, hc1, hf⟩ := h.form
  simp only [Value.slice.injEq] at hv
  obtain ⟨rfl, -, rfl⟩ := hv
  have HF := Lib.hid hf
  have HW := Lib.hid hw
  have hmk := run_make (P := Tryz.prog) w 35 175 i0 (.int .u32 0) Tryz.underlying35 hi hz0 .i64 .i64 ws.length ws.length (by omega) (by omega) (by rw [hz2]; omega) (by omega)
  rw [hz1] at hmk
  clear hf h hw
  go_enter Tryz.func100, Tryz.ntmps100
  go_wp2
  have hnew := heap_alloc_new w (.cells (madeCells #[Value.int .u32 0] ws.length) 175)
  have hbw := below_new w (.cells (madeCells #[Value.int .u32 0] ws.length) 175)
  clear hmk
  generalize w.alloc _ = w2 at hnew hbw ⊢
  go_loopw [7, 8] (fun rv q wr => ∃ (k : Nat) (i : Int) (cs : Array Value), k ≤ ws.length ∧ q = .int .i64 i ∧ i + 1 = (k : Int) ∧ rv = .int .u64 ((shortF b (ws.drop k)).2 : Nat) ∧ wr.heap[w.heap.size]? = some (.cells cs 175 (0, 0)) ∧ cs.toList = List.replicate k (.int .u32 0) ++ (shortF b (ws.drop k)).1.map (fun d => .int .u32 (d : Nat)) ∧ Below w.heap.size w wr) (fun _ q _ => (intOf q + 1).toNat)
  case atStart => exact ⟨ws.length, _, _, Nat.le_refl _, rfl, by omega, by rw [List.drop_length]; rfl, hnew, by rw [toList_madeCells_one, List.drop_length]; simp [shortF], hbw⟩
  case round =>
    obtain ⟨k, i, cs, hk, rfl, hik, rfl, hcs, hcl, hbl⟩ := hrel
    have hz := hbl.size
    cases k with
    | zero =>
      obtain rfl : i = -1 := by omega
      rw [List.drop_zero] at hcl ⊢
      rw [List.replicate_zero, List.nil_append] at hcl
      have hsl := shortF_len b ws
      have hWd : Wd (fun k => w.heap.size ≤ k) wr (.slice (some ⟨w.heap.size, 0, none⟩) (shortF b ws).1.length ws.length) (shortF b ws).1 := by
        refine ⟨_, _, rfl, by rw [hsl]; exact Nat.le_refl _, by simp, fun h0 => ⟨w.heap.size, 0, rfl, Nat.le_refl _, (Array.getElem?_eq_some_iff.1 hcs).1, fun j hj => ?_⟩⟩
        rw [Lib.cell_of_heap hcs, Nat.zero_add, ← Array.getElem?_toList, hcl, List.getElem?_eq_getElem hj]
      have hT := ztrim_any _ (some ⟨w.heap.size, 0, none⟩) ws.length (shortF b ws).1 wr hWd (by omega)
      obtain ⟨n, n1, n2, _, _⟩ := trimW_take (shortF b ws).1
      have hln : (trimW (shortF b ws).1).length = n := by rw [n2, List.length_take]; omega
      have hW2 : Wd (fun k => w.heap.size ≤ k) wr (.slice (some ⟨w.heap.size, 0, none⟩) (trimW (shortF b ws).1).length ws.length) (trimW (shortF b ws).1) := by
        rw [hln, n2]
        exact hWd.take n1
      rw [hsl] at hT
      have HT := Lib.hid hT
      have HW2 := Lib.hid hW2
      clear hT hW2 hWd hsl hln n1 n2 hcl
      go_wp2_with (go_at_call 75; refine HT.out.mono ?_; rintro e w8 ⟨rfl, rfl⟩)
      go_ret2
      exact ⟨_, rfl, HW2.out, hbl⟩
    | succ k =>
      obtain rfl : i = (k : Int) := by omega
      obtain ⟨bk, off, rfl, _, hbk, hcell⟩ := HF.out (by omega)
      have hx := (hbl.cell (p := ⟨bk, off + k, none⟩) hbk).trans (hcell k (by omega))
      have hxw := HW.out ws[k] (List.getElem_mem (by omega))
      have hdr : ws.drop k = ws[k] :: ws.drop (k + 1) := List.drop_eq_getElem_cons (by omega)
      have hr := shortF_rest b hb (ws.drop (k + 1))
      have hsh : shortF b (ws.drop k) = (((shortF b (ws.drop (k + 1))).2 * 4294967296 + ws[k]) / b :: (shortF b (ws.drop (k + 1))).1, ((shortF b (ws.drop (k + 1))).2 * 4294967296 + ws[k]) % b) := by rw [hdr, shortF]
      have HS := Lib.hid hsh
      have HCL := Lib.hid hcl
      generalize (shortF b (ws.drop (k + 1))).2 = r at hr HS ⊢
      generalize ws[k] = x at hx hxw HS
      have hkI : (k : Int) < (ws.length : Int) := by omega
      clear hcell hdr hsh hcl
      have hlt := (Array.getElem?_eq_some_iff.1 hcs).1
      have hor := or_words r x (by omega) hxw
      have hk0 : cs.toList[k]? = some (.int .u32 0) := by
        rw [HCL.out, List.getElem?_append_left (by simp), List.getElem?_replicate, if_pos (by omega)]
      have o0 : wr.cell? ⟨w.heap.size, k, none⟩ = some (.int .u32 0) := by rw [Lib.cell_of_heap hcs, ← Array.getElem?_toList]; exact hk0
      have oz : ∀ j, wr.frozen? ⟨w.heap.size, j, none⟩ = false := by intro j; simp [World.frozen?, hcs]
      clear hk0
      have hq : (r * 4294967296 + x) / b < 4294967296 := by
        rw [Nat.div_lt_iff_lt_mul hb]
        have : (r + 1) * 4294967296 ≤ b * 4294967296 := Nat.mul_le_mul_right _ hr
        rw [Nat.mul_comm 4294967296 b]
        omega
      have e1 : ((r : Int) * 4294967296 + (x : Int)) % (b : Int) = (((r * 4294967296 + x) % b : Nat) : Int) := by
        rw [Int.natCast_emod]
        congr 1
      have e2 : ((r : Int) * 4294967296 + (x : Int)) / (b : Int) % 4294967296 = (((r * 4294967296 + x) / b : Nat) : Int) := by
        have e3 : ((r : Int) * 4294967296 + (x : Int)) / (b : Int) = (((r * 4294967296 + x) / b : Nat) : Int) := by
          rw [Int.natCast_ediv]
          congr 1
        rw [e3]
        generalize (r * 4294967296 + x) / b = qq at hq ⊢
        omega
      have E1 := Lib.hid e1
      have E2 := Lib.hid e2
      clear e1 e2
      go_wp2
      refine ⟨⟨k, (k : Int) - 1, _, by omega, rfl, by omega, by rw [HS.out]; exact val_int E1.out, heap_setCell_same wr w.heap.size k _ _ _ hcs, ?_, hbl.setCell (Nat.le_refl _) _⟩, by simp [intOf]⟩
      rw [Array.toList_setIfInBounds, HCL.out, set_last, HS.out, E2.out]
      rfl
end Go.Proofs.YtemkhbmkaalgdaaGreatDoor

namespace Go.Proofs.YtemkhbmkaalgdaaGreatDoor
open Go.RowKit Go
def RevPost (bk : Nat) (l : List UInt8) (rest : List Value) (fr : Nat × Nat) (w : World) (e : Ending) (w' : World) : Prop :=
  e = .returned (.tuple #[]) ∧ w'.heap[bk]? = some (.cells (Lib.byteCells l.reverse ++ rest).toArray 5 fr) ∧ w'.heap.size = w.heap.size ∧ (∀ q, q ≠ bk → w'.heap[q]? = w.heap[q]?) ∧ Below bk w w'
theorem drew_heap (w : World) : w.drew.heap = w.heap := rfl
theorem split_ends {α : Type} : ∀ (M : List α), 2 ≤ M.length → ∃ x N y, M = x :: (N ++ [y])
  | [], h => absurd h (by simp)
  | [x], h => absurd h (by simp)
  | x :: y :: l, _ => ⟨x, (y :: l).dropLast, (y :: l).getLast (by simp), by rw [List.dropLast_concat_getLast]⟩
theorem swap_ends {α : Type} (A N C : List α) (x y : α) : ((A ++ (x :: (N ++ y :: C))).set A.length y).set (A.length + N.length + 1) x = A ++ (y :: (N ++ x :: C)) := by
  rw [List.set_append_right _ _ (Nat.le_refl _), Nat.sub_self, List.set_cons_zero, List.set_append_right _ _ (by omega), show A.length + N.length + 1 - A.length = N.length + 1 by omega, List.set_cons_succ, List.set_append_right _ _ (Nat.le_refl _), Nat.sub_self, List.set_cons_zero]
theorem heap_set_fr (w : World) (b i : Nat) (cs : Array Value) (T : TypeId) (fr : Nat × Nat) (v : Value) (hb : w.heap[b]? = some (.cells cs T fr)) :
    (w.setCell ⟨b, i, none⟩ v).heap[b]? = some (.cells (cs.setIfInBounds i v) T fr) := by
  simp [World.setCell, Array.getElem?_modify, hb]
set_option maxHeartbeats 1000000 in
set_option maxRecDepth 100000 in
theorem byteRev_any (bk cap : Nat) (l : List UInt8) (rest : List Value) (fr : Nat × Nat) (w : World) (h : w.heap[bk]? = some (.cells (Lib.byteCells l ++ rest).toArray 5 fr)) (hf : l.length ≤ fr.1) (hn : l.length ≤ 1099511627776) :
    Calls Tryz.prog 102 #[.slice (some ⟨bk, 0, none⟩) l.length cap] w (RevPost bk l rest fr w) := by
  go_enter Tryz.func102, Tryz.ntmps102
  go_wp2
  go_loopg [2, 3] l.length (fun k s2 s3 wr => ∃ (A M C : List UInt8), s2 = .int .i64 (A.length : Nat) ∧ s3 = .int .i64 ((A.length : Int) + (M.length : Int) - 1) ∧ M.length ≤ k ∧ l = C.reverse ++ M ++ A.reverse ∧
    wr.heap[bk]? = some (.cells (Lib.byteCells (A ++ M ++ C) ++ rest).toArray 5 fr) ∧ wr.heap.size = w.heap.size ∧ (∀ q, q ≠ bk → wr.heap[q]? = w.heap[q]?) ∧ Below bk w wr)
  case atStart => exact ⟨[], l, [], rfl, by simp, Nat.le_refl _, by simp, by simpa using h, rfl, fun _ _ => rfl, Below.refl _ _⟩
  case round =>
    obtain ⟨A, M, C, rfl, rfl, hk, hl, hh, hsz, hoth, hbl⟩ := hrel
    have hlen : l.length = C.length + M.length + A.length := by rw [hl]; simp; omega
    by_cases hlt : 2 ≤ M.length
    · obtain ⟨x, N, y, rfl⟩ := split_ends M hlt
      have hI : (A.length : Int) < (A.length : Int) + ((x :: (N ++ [y])).length : Int) - 1 := by simp only [List.length_cons] at hlt ⊢; omega
      have hj : (A.length : Int) + ((x :: (N ++ [y])).length : Int) - 1 = ((A.length + N.length + 1 : Nat) : Int) := by simp; omega
      simp only [List.length_cons, List.length_append, List.length_nil] at hlen hk
      rw [hj] at hI ⊢
      have e : A ++ (x :: (N ++ [y])) ++ C = A ++ (x :: (N ++ y :: C)) := by simp
      rw [e] at hh
      have ci : wr.cell? ⟨bk, A.length, none⟩ = some (.int .u8 x.toNat) := by
        rw [Lib.cell_of_heap hh]
        simp [Lib.byteCells]
      have cj : wr.cell? ⟨bk, A.length + N.length + 1, none⟩ = some (.int .u8 y.toNat) := by
        rw [Lib.cell_of_heap hh, List.getElem?_toArray, Lib.byteCells, List.map_append, List.append_assoc, List.getElem?_append_right (by simp; omega)]
        simp only [List.length_map]
        rw [show A.length + N.length + 1 - A.length = N.length + 1 by omega, List.map_cons, List.cons_append, List.getElem?_cons_succ, List.map_append, List.append_assoc, List.getElem?_append_right (by simp)]
        simp
      have fi : wr.frozen? ⟨bk, A.length, none⟩ = false := by
        simp [World.frozen?, hh]
        omega
      have fj : wr.frozen? ⟨bk, A.length + N.length + 1, none⟩ = false := by
        simp [World.frozen?, hh]
        omega
      have h1 := heap_set_fr wr bk A.length _ _ _ (.int .u8 y.toNat) hh
      have h2 := heap_set_fr _ bk (A.length + N.length + 1) _ _ _ (.int .u8 x.toNat) h1
      have HL := Lib.hid hl
      have HH := Lib.hid hh
      have H2 := Lib.hid h2
      have HO := Lib.hid hoth
      clear hj hl hh h1 h2 hoth e
      go_wp2_with fail
      go_region
      go_wp2
      go_roundg N.length
      case measure => omega
      case rel =>
        refine ⟨A ++ [y], N, x :: C, by simp, by simp; omega, Nat.le_refl _, by rw [HL.out]; simp, ?_, ?_, ?_, ((hbl.setCell (Nat.le_refl _) _).setCell (Nat.le_refl _) _).drew⟩
        · rw [drew_heap, H2.out]
          have e2 : ((Lib.byteCells (A ++ x :: (N ++ y :: C)) ++ rest).toArray.setIfInBounds A.length (.int .u8 y.toNat)).setIfInBounds (A.length + N.length + 1) (.int .u8 x.toNat) = (Lib.byteCells (A ++ [y] ++ N ++ x :: C) ++ rest).toArray := by
            have := swap_ends (Lib.byteCells A) (Lib.byteCells N) (Lib.byteCells C ++ rest) (.int .u8 x.toNat) (.int .u8 y.toNat)
            simp only [Lib.byteCells_length] at this
            apply Array.toList_inj.1
            simp only [Array.toList_setIfInBounds]
            have e3 : Lib.byteCells (A ++ x :: (N ++ y :: C)) ++ rest = Lib.byteCells A ++ (.int .u8 x.toNat :: (Lib.byteCells N ++ .int .u8 y.toNat :: (Lib.byteCells C ++ rest))) := by simp [Lib.byteCells]
            have e4 : Lib.byteCells (A ++ [y] ++ N ++ x :: C) ++ rest = Lib.byteCells A ++ (.int .u8 y.toNat :: (Lib.byteCells N ++ .int .u8 x.toNat :: (Lib.byteCells C ++ rest))) := by simp [Lib.byteCells]
            rw [e3, e4, this]
          rw [e2]
        · simpa using hsz
        · intro q hq
          rw [drew_heap, heap_setCell_other _ _ _ _ hq, heap_setCell_other _ _ _ _ hq]
          exact HO.out q hq
    · have hI : decide ((A.length : Int) < (A.length : Int) + (M.length : Int) - 1) = false := decide_eq_false (by omega)
      have hr : M.reverse = M := by
        match M, hlt with
        | [], _ => rfl
        | [x], _ => rfl
        | x :: y :: l, h => exact absurd h (by simp)
      have HR : Hid (A ++ M ++ C = l.reverse) := Lib.hid (by rw [hl]; simp [hr])
      have HH := Lib.hid hh
      clear hl hh hr
      go_wp2
      go_end0
      exact ⟨rfl, by rw [← HR.out]; exact HH.out, hsz, hoth, hbl⟩
end Go.Proofs.YtemkhbmkaalgdaaGreatDoor
