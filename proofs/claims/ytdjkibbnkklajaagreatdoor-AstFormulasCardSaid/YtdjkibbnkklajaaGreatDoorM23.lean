/- The walks of the code that the claim reaches, and the plain laws: TdumpW2, AsW. No condition of ours. -/
import Derived.Test.YtdjkibbnkklajaaGreatDoorM19
import Derived.Test.YtdjkibbnkklajaaGreatDoorM22
namespace Go.Proofs.YtdjkibbnkklajaaGreatDoor
open Go.RowKit Go

theorem slNil (B : Nat) (w : World) (sz : Nat) : Sl B w (.slice none 0 0) sz 0 [] := ⟨none, 0, rfl, Nat.le_refl _, by simp, fun h => absurd h (by omega)⟩
theorem treeNil (w : World) : TreeAt 0 w (.agg #[.slice none 0 0, .slice none 0 0]) [] [] := ⟨_, _, [], rfl, slNil _ _ _, rfl, slNil _ _ _, fun p hp => by cases hp⟩

set_option maxHeartbeats 1000000 in
set_option maxRecDepth 100000 in
theorem check_yes {toks : List Tok} {nodes : List Nd} {D : List UInt8} (G : GoodT toks nodes D) (B : Nat) (tv nv : Value) (w : World) (h : TreeAt B w (.agg #[tv, nv]) toks nodes) (hB : B ≤ w.heap.size) :
    Calls Tryz.prog 57 #[.agg #[tv, nv], .int .i64 ((nodes.length : Int) - 1)] w fun e w' => e = .returned (.int .i64 0) ∧ Below w.heap.size w w' := by
  have hR := fun W (hW : Below w.heap.size w W) => right_any B tv nv toks nodes (tokR 0 toks.length) (nodes.length + 1) W (h.below (hW.mono hB)) (Nat.le_trans hB hW.size) G.few G.kids (fun _ _ _ _ => G.leaves) (by simp [tokR]; have := G.fewt; omega) (by have := G.fewt; omega)
  rw [G.right] at hR
  have hp := G.pos
  have hf := G.few
  obtain ⟨at_, ct, an, cn, hv⟩ := h.slices
  simp only [Value.agg.injEq, Array.mk.injEq, List.cons.injEq, and_true] at hv
  obtain ⟨rfl, rfl⟩ := hv
  have hI1 : ((nodes.length : Int) - 1) < (nodes.length : Int) := by omega
  have hI0 : 0 ≤ ((nodes.length : Int) - 1) := by omega
  have HR := Lib.hid hR
  have hbb := (Below.refl w.heap.size w).alloc (Nat.le_refl _) (.cells #[.slice at_ toks.length ct, .slice an nodes.length cn] 26)
  have e1 := heap_alloc_new w (.cells #[.slice at_ toks.length ct, .slice an nodes.length cn] 26)
  clear h G hR
  go_enter Tryz.func57, Tryz.ntmps57
  go_upto_region 3 with (go_at_call 86; refine (HR.out _ hbb).mono ?_; rintro e w3 ⟨rfl, hb3⟩)
  have T3 := (hb3.block w.heap.size (by simp)).trans e1
  obtain ⟨c0, c1⟩ := tree_cells T3
  have hb4 := hbb.trans (hb3.mono (by simp))
  clear hb3 e1 T3 HR hbb
  go_wp2
  go_ret
  exact ⟨rfl, hb4⟩

set_option maxHeartbeats 1000000 in
set_option maxRecDepth 100000 in
theorem check_no (n : Int) (w : World) :
    Calls Tryz.prog 57 #[.agg #[.slice none 0 0, .slice none 0 0], .int .i64 n] w fun e w' => e = .returned (.int .i64 10) ∧ Below w.heap.size w w' := by
  have hT : ∀ W : World, TreeAt 0 W (.agg #[.slice none 0 0, .slice none 0 0]) [] [] := treeNil
  have hR := fun W => right_any 0 (.slice none 0 0) (.slice none 0 0) [] [] [] 0 W (hT W) (Nat.zero_le _) (by decide) (fun n hn => by cases hn) (fun kid hk h0 _ => absurd (by
    rw [marksAll, marksF] at hk
    injection hk with hk
    rw [← hk]
    rfl) h0) (by decide) (by decide)
  have e : rightB ([] : List Tok).length [] [] = false := by decide
  rw [e] at hR
  have HR := Lib.hid hR
  have hbb := (Below.refl w.heap.size w).alloc (Nat.le_refl _) (.cells #[.slice none 0 0, .slice none 0 0] 26)
  clear hT hR e
  go_enter Tryz.func57, Tryz.ntmps57
  go_wp2_with (go_at_call 86; refine (HR.out _).mono ?_; rintro e w3 ⟨rfl, hb3⟩)
  go_ret
  exact ⟨rfl, hbb.trans (hb3.mono (by simp))⟩

set_option maxHeartbeats 1000000 in
set_option maxRecDepth 100000 in
theorem dump_no (n : Int) (w : World) :
    Calls Tryz.prog 33 #[.agg #[.slice none 0 0, .slice none 0 0], .int .i64 n] w fun e w' => e = .returned (.tuple #[.string ⟨#[]⟩, .int .i64 10]) ∧ Below w.heap.size w w' := by
  have HR := Lib.hid (fun W => check_no n W)
  have hbb := (Below.refl w.heap.size w).alloc (Nat.le_refl _) (.cells #[.slice none 0 0, .slice none 0 0] 26)
  go_enter Tryz.func33, Tryz.ntmps33
  go_wp2_with (go_at_call 57; refine (HR.out _).mono ?_; rintro e w3 ⟨rfl, hb3⟩)
  go_ret2
  exact ⟨rfl, hbb.trans (hb3.mono (by simp))⟩

set_option maxHeartbeats 1000000 in
set_option maxRecDepth 100000 in
theorem dump_yes {toks : List Tok} {nodes : List Nd} {D : List UInt8} (G : GoodT toks nodes D) (B : Nat) (tv nv : Value) (w : World) (h : TreeAt B w (.agg #[tv, nv]) toks nodes) (hB : B ≤ w.heap.size) :
    Calls Tryz.prog 33 #[.agg #[tv, nv], .int .i64 ((nodes.length : Int) - 1)] w fun e w' => e = .returned (.tuple #[.string ⟨D.toArray⟩, .int .i64 0]) ∧ Below w.heap.size w w' := by
  have HR := Lib.hid (fun W (hW : Below w.heap.size w W) => check_yes G B tv nv W (h.below (hW.mono hB)) (Nat.le_trans hB hW.size))
  have hdl := G.dlen
  have HD := Lib.hid (fun W (hW : Below w.heap.size w W) => tdump_any G B W.heap.size W.heap.size tv nv nodes.length ((nodes.length : Int) - 1) D [] (W.alloc (.cells #[.pointer none, .slice none 0 0] 75)) (h.below ((hW.alloc hW.size _).mono hB)) (Nat.le_trans hB hW.size) (Bld.fresh W) (by simp) G.dump (by rw [List.length_nil]; omega))
  obtain ⟨at_, ct, an, cn, hv⟩ := h.slices
  simp only [Value.agg.injEq, Array.mk.injEq, List.cons.injEq, and_true] at hv
  obtain ⟨rfl, rfl⟩ := hv
  have hbb := (Below.refl w.heap.size w).alloc (Nat.le_refl _) (.cells #[.slice at_ toks.length ct, .slice an nodes.length cn] 26)
  have e1 := heap_alloc_new w (.cells #[.slice at_ toks.length ct, .slice an nodes.length cn] 26)
  clear h G
  go_enter Tryz.func33, Tryz.ntmps33
  go_upto_region 4 with (go_at_call 57; refine (HR.out _ hbb).mono ?_; rintro e w3 ⟨rfl, hb3⟩)
  have T3 := (hb3.block w.heap.size (by simp)).trans e1
  have hb4 := hbb.trans (hb3.mono (by simp))
  have HD3 := Lib.hid (HD.out w3 hb4)
  have T4 := (Lib.alloc_old w3 (.cells #[.pointer none, .slice none 0 0] 75) w.heap.size (Array.getElem?_eq_some_iff.1 T3).1).trans T3
  have hb5 := hb4.alloc hb4.size (.cells #[.pointer none, .slice none 0 0] 75)
  obtain ⟨c0, c1⟩ := tree_cells T4
  have hz3 := hb4.size
  clear hb3 e1 T3 T4 HR hbb HD
  go_wp2_with (first | (go_at_call 58; refine HD3.out.mono ?_; rintro e w6 ⟨rfl, hbd6, hl6, ho6⟩; rw [List.nil_append] at hbd6; have hz6 := hl6.size; simp only [World.size_alloc] at hz6) | (go_at_call 24; refine (bstring_any w3.heap.size w3.heap.size D _ hbd6 (by omega)).mono ?_; rintro e w7 ⟨rfl, hbd7, hl7, ho7⟩))
  go_ret2
  exact ⟨rfl, hb5.trans ((hl6.mono hz3).trans (hl7.mono hz3))⟩

set_option maxHeartbeats 1000000 in
set_option maxRecDepth 100000 in
theorem show_any (B : Nat) (tv nv : Value) (toks : List Tok) (w : World) (hl : toks.length ≤ 1099511627776) (hn : tokAt toks toks.length ≤ 1099511627776) (h : Rec B w tv 4 tokCells toks) (hB : B ≤ w.heap.size) :
    Calls Tryz.prog 34 #[.agg #[tv, nv]] w fun e w' => e = .returned (.string ⟨(wholeF toks).toArray⟩) ∧ Below w.heap.size w w' := by
  have HW := Lib.hid (fun W (hW : Below w.heap.size w W) => whole_any tv toks W hl hn ((h.below (hW.mono hB)).mono (Nat.le_trans hB hW.size)))
  obtain ⟨X, hX, eX⟩ := bytes_of (wholeF toks)
  rw [eX] at HW ⊢
  have hbb := (Below.refl w.heap.size w).alloc (Nat.le_refl _) (.cells #[tv, nv] 26)
  clear h
  go_enter Tryz.func34, Tryz.ntmps34
  go_wp2_with (go_at_call 59; refine (HW.out _ hbb).mono ?_; rintro e w3 ⟨rfl, hb3⟩)
  go_ret
  exact ⟨rfl, hbb.trans (hb3.mono (by simp))⟩
end Go.Proofs.YtdjkibbnkklajaaGreatDoor

namespace Go.Proofs.YtdjkibbnkklajaaGreatDoor
open Go.RowKit Go

theorem root_tree (at_ : Option Addr) (nt ct : Nat) (an : Option Addr) (n cn : Nat) (w : World) (hn : n ≤ 1099511627776) :
    Calls Tryz.prog 9 #[.agg #[.slice at_ nt ct, .slice an n cn]] w fun e w' => e = .returned (.int .i64 ((n : Int) - 1)) ∧ Below w.heap.size w w' := root_any _ an n cn w hn

set_option maxHeartbeats 2000000 in
set_option maxRecDepth 100000 in
theorem as_yes (B : Nat) (at_ : Option Addr) (ct : Nat) (an : Option Addr) (cn : Nat) (S : ByteArray) (toks : List Tok) (nodes : List Nd) (D : List UInt8) (w : World) (h : TreeAt B w (.agg #[.slice at_ toks.length ct, .slice an nodes.length cn]) toks nodes) (hB : B ≤ w.heap.size)
    (G : GoodT toks nodes D) (hS : S.size ≤ 65536) (hw : wholeF toks = S.data.toList) (hf : formF S.data.toList 200 = .good toks nodes) :
    Calls Tryz.prog 18 #[.agg #[.slice at_ toks.length ct, .slice an nodes.length cn], .func (.func 5) #[] #[]] w fun e w' => e = .returned (.bool true) ∧ Below w.heap.size w w' := by
  have hft := G.fewt
  have hfn := G.few
  obtain ⟨XD, hXD, eX⟩ := bytes_of D
  have HDump : Hid (∀ (B : Nat) (at_ : Option Addr) (ct : Nat) (an : Option Addr) (cn : Nat) (W : World), TreeAt B W (.agg #[.slice at_ toks.length ct, .slice an nodes.length cn]) toks nodes → B ≤ W.heap.size → Calls Tryz.prog 33 #[.agg #[.slice at_ toks.length ct, .slice an nodes.length cn], .int .i64 ((nodes.length : Int) - 1)] W fun e w' => e = .returned (.tuple #[.string XD, .int .i64 0]) ∧ Below W.heap.size W w') :=
    Lib.hid fun B at_ ct an cn W hT hBW => (dump_yes G B _ _ W hT hBW).mono fun e w' h => ⟨by rw [h.1, eX], h.2⟩
  have hlen : tokAt toks toks.length ≤ 1099511627776 := by
    rw [← wholeF_len, hw, size_list]
    omega
  have eS : ByteArray.mk (S.data.toList).toArray = S := by cases S; simp
  have HShow : Hid (∀ W, Below w.heap.size w W → Calls Tryz.prog 34 #[.agg #[.slice at_ toks.length ct, .slice an nodes.length cn]] W fun e w' => e = .returned (.string S) ∧ Below W.heap.size W w') := Lib.hid fun W hW => by
    obtain ⟨tv', nv', l, e1, e2, _⟩ := h.below (hW.mono hB)
    simp only [Value.agg.injEq, Array.mk.injEq, List.cons.injEq, and_true] at e1
    obtain ⟨rfl, rfl⟩ := e1
    have := show_any B (.slice at_ toks.length ct) (.slice an nodes.length cn) toks W (by omega) hlen e2 (Nat.le_trans hB hW.size)
    rw [hw, eS] at this
    exact this
  have HForm := Lib.hid (fun W => formula_any S 200 W (by omega) (by omega) (by omega))
  rw [hf] at HForm
  have HT := Lib.hid h
  have hal := below_new w (.cells #[.slice at_ toks.length ct, .slice an nodes.length cn] 26)
  have e1 := heap_alloc_new w (.cells #[.slice at_ toks.length ct, .slice an nodes.length cn] 26)
  clear h G hf hw hXD eX eS hlen
  go_enter Tryz.func18, Tryz.ntmps18
  go_upto_region 1 with fail
  generalize w.alloc _ = w1 at hal e1 ⊢
  obtain ⟨c0, c1⟩ := tree_cells e1
  have hl1 := (Array.getElem?_eq_some_iff.1 e1).1
  go_cut [5, 6] (fun a e wx => a = .string XD ∧ e = .int .i64 0 ∧ wx.heap[w.heap.size]? = some (.cells #[.slice at_ toks.length ct, .slice an nodes.length cn] 26 (0, 0)) ∧ Below w.heap.size w wx)
  case first =>
    go_region_with (first | (go_at_call 9; refine (root_tree at_ toks.length ct an nodes.length cn _ (by omega)).mono ?_; rintro e w5 ⟨rfl, hb5⟩; have d0 := (hb5.cell (p := ⟨w.heap.size, 0, none⟩) hl1).trans c0; have d1 := (hb5.cell (p := ⟨w.heap.size, 1, none⟩) hl1).trans c1) | (go_at_call 33; refine (HDump.out B at_ ct an cn _ (HT.out.below ((hal.drew.trans (hb5.mono hal.size)).mono hB)) (Nat.le_trans hB (hal.drew.trans (hb5.mono hal.size)).size)).mono ?_; rintro e w6 ⟨rfl, hb6⟩))
    all_goals
      have hb56 := hal.drew.trans (hb5.mono hal.size)
      have T6 := (hb6.block w.heap.size (Nat.lt_of_lt_of_le hl1 hb5.size)).trans ((hb5.block w.heap.size hl1).trans e1)
      go_wp2_with fail
      go_meet
      exact ⟨rfl, rfl, T6, hb56.trans (hb6.mono hb56.size)⟩
  case rest =>
    obtain ⟨rfl, rfl, hT, hbc⟩ := hcut
    clear hal e1 c0 c1 hl1 w1
    obtain ⟨wo, rfl⟩ : ∃ wo : World, wo = wc := ⟨_, rfl⟩
    obtain ⟨c0, c1⟩ := tree_cells hT
    go_upto_region 3 with (first | (go_at_call 34; refine (HShow.out _ hbc).mono ?_; rintro e w7 ⟨rfl, hb7⟩) | (go_at_call 5; refine (HForm.out _).mono ?_; rintro e w8 ⟨hb8, a8, c8, b8, d8, rfl, ht8⟩))
    have hb78 := (hbc.trans (hb7.mono hbc.size))
    have hb88 := hb78.trans (hb8.mono hb78.size)
    have hT8 := (hb8.block w.heap.size (Nat.lt_of_lt_of_le (Array.getElem?_eq_some_iff.1 hT).1 hb7.size)).trans ((hb7.block w.heap.size (Array.getElem?_eq_some_iff.1 hT).1).trans hT)
    have hlt8 := (Array.getElem?_eq_some_iff.1 hT8).1
    have hal9 := (below_new w8 (.cells #[.slice a8 toks.length c8, .slice b8 nodes.length d8] 26)).alloc (by simp) (.cells #[.int .i64 0, .int .i64 0] 29)
    have hT9 := (hal9.block w.heap.size hlt8).trans hT8
    have hU9 := (Lib.alloc_old (w8.alloc (.cells #[.slice a8 toks.length c8, .slice b8 nodes.length d8] 26)) (.cells #[.int .i64 0, .int .i64 0] 29) w8.heap.size (by simp)).trans (heap_alloc_new w8 (.cells #[.slice a8 toks.length c8, .slice b8 nodes.length d8] 26))
    have hF9 := heap_alloc_new (w8.alloc (.cells #[.slice a8 toks.length c8, .slice b8 nodes.length d8] 26)) (.cells #[.int .i64 0, .int .i64 0] 29)
    rw [World.size_alloc] at hF9
    have hU := Lib.hid (ht8.at.below hal9)
    have hb9 := hb88.trans (hal9.mono hb88.size)
    have hz9 := hal9.size
    clear hb7 hb8 hT8 hal9 ht8 hb78 hT hbc c0 c1 HShow HForm
    generalize w8.heap.size = ub at hU9 hF9 hU hz9 hlt8 hb88 ⊢
    generalize (w8.alloc _).alloc _ = w9 at hT9 hU9 hF9 hU hb9 hz9 ⊢
    obtain ⟨c0, c1⟩ := tree_cells hU9
    have hl9 := (Array.getElem?_eq_some_iff.1 hU9).1
    have hlT := (Array.getElem?_eq_some_iff.1 hT9).1
    have hlF := (Array.getElem?_eq_some_iff.1 hF9).1
    go_cut [9, 10] (fun a e wx => a = .string XD ∧ e = .int .i64 0 ∧ Below w9.heap.size w9 wx)
    case first =>
      go_region_with (first | (go_at_call 9; refine (root_tree a8 toks.length c8 b8 nodes.length d8 _ (by omega)).mono ?_; rintro e w5 ⟨rfl, hb5⟩; have d0 := (hb5.cell (p := ⟨ub, 0, none⟩) hl9).trans c0; have d1 := (hb5.cell (p := ⟨ub, 1, none⟩) hl9).trans c1) | (go_at_call 33; refine (HDump.out ub a8 c8 b8 d8 _ (hU.out.below (((Below.refl w9.heap.size w9).drew.trans hb5).mono hz9)) (Nat.le_trans hz9 hb5.size)).mono ?_; rintro e w6 ⟨rfl, hb6⟩))
      all_goals
        have hb56 := (Below.refl w9.heap.size w9).drew.trans hb5
        go_wp2_with fail
        go_meet
        exact ⟨rfl, rfl, hb56.trans (hb6.mono hb56.size)⟩
    case rest =>
      obtain ⟨rfl, rfl, hbc⟩ := hcut
      have hTc := (hbc.block _ hlT).trans hT9
      have hUc := (hbc.block _ hl9).trans hU9
      have hFc := (hbc.block _ hlF).trans hF9
      have HU := Lib.hid (hU.out.below (hbc.mono hz9))
      have hbw : Below w.heap.size w wc := hb9.trans (hbc.mono hb9.size)
      have HT2 := Lib.hid (HT.out.below (hbw.mono hB))
      clear hT9 hU9 hF9 hU hb9 hz9 hlt8 hb88 c0 c1 hl9 hlT hlF hbc HDump HT
      obtain ⟨wo, rfl⟩ : ∃ wo : World, wo = wc := ⟨_, rfl⟩
      obtain ⟨c0, c1⟩ := tree_cells hTc
      obtain ⟨u0, u1⟩ := tree_cells hUc
      obtain ⟨f0, f1, _⟩ := fault_cells hFc
      have hlU := (Array.getElem?_eq_some_iff.1 hUc).1
      have hzo := hbw.size
      go_wp2
      clear c0 c1 u0 u1 f0 f1
      go_loopw [58] (fun q wr => ∃ k : Nat, k ≤ toks.length ∧ q = .int .i64 k ∧ Below wo.heap.size wo wr) (fun q _ => toks.length - (intOf q).toNat)
      case atStart => exact ⟨0, Nat.zero_le _, rfl, Below.refl _ _⟩
      case round =>
        obtain ⟨k, hk, rfl, hbl⟩ := hrel
        have hwz := hbl.size
        by_cases hlt : k < toks.length
        · obtain ⟨b1, o1, cap1, ev, hb1, t0, t1, t2, t3⟩ := HT2.out.tok hlt
          simp only [Value.slice.injEq] at ev
          obtain ⟨rfl, -, rfl⟩ := ev
          obtain ⟨b2, o2, cap2, ev, hb2, s0, s1, s2, s3⟩ := HU.out.tok hlt
          simp only [Value.slice.injEq] at ev
          obtain ⟨rfl, -, rfl⟩ := ev
          have x0 := (hbl.cell (p := ⟨b1, o1 + k * 4, none⟩) (by show b1 < _; omega)).trans t0
          have x1 := (hbl.cell (p := ⟨b1, o1 + k * 4 + 1, none⟩) (by show b1 < _; omega)).trans t1
          have x2 := (hbl.cell (p := ⟨b1, o1 + k * 4 + 2, none⟩) (by show b1 < _; omega)).trans t2
          have x3 := (hbl.cell (p := ⟨b1, o1 + k * 4 + 3, none⟩) (by show b1 < _; omega)).trans t3
          generalize toks[k] = tk at x0 x1 x2 x3 s0 s1 s2 s3
          simp only [strV] at x1 x2 s1 s2
          have hal := below_new wr (.cells #[.int .i64 tk.kind, .string ⟨tk.lead.toArray⟩, .string ⟨tk.text.toArray⟩, .int .i64 tk.place] 71)
          have hba := hbl.trans (hal.mono hwz)
          have y0 := (hba.cell (p := ⟨b2, o2 + k * 4, none⟩) (by show b2 < _; omega)).trans s0
          have y1 := (hba.cell (p := ⟨b2, o2 + k * 4 + 1, none⟩) (by show b2 < _; omega)).trans s1
          have y2 := (hba.cell (p := ⟨b2, o2 + k * 4 + 2, none⟩) (by show b2 < _; omega)).trans s2
          have y3 := (hba.cell (p := ⟨b2, o2 + k * 4 + 3, none⟩) (by show b2 < _; omega)).trans s3
          have U2 := (hba.block ub hlU).trans hUc
          have N2 := heap_alloc_new wr (.cells #[.int .i64 tk.kind, .string ⟨tk.lead.toArray⟩, .string ⟨tk.text.toArray⟩, .int .i64 tk.place] 71)
          have hkI : (k : Int) < (toks.length : Int) := by omega
          clear t0 t1 t2 t3 s0 s1 s2 s3 hal
          go_upto_region 9 with fail
          clear x0 x1 x2 x3
          generalize wr.heap.size = nb at N2 ⊢
          generalize wr.alloc _ = w2 at hba y0 y1 y2 y3 U2 N2 ⊢
          obtain ⟨d0, d1⟩ := tree_cells U2
          have n0 : w2.cell? ⟨nb, 0, none⟩ = some (.int .i64 tk.kind) := by rw [Lib.cell_of_heap N2]; rfl
          have n1 : w2.cell? ⟨nb, 1, none⟩ = some (.string ⟨tk.lead.toArray⟩) := by rw [Lib.cell_of_heap N2]; rfl
          have n2 : w2.cell? ⟨nb, 2, none⟩ = some (.string ⟨tk.text.toArray⟩) := by rw [Lib.cell_of_heap N2]; rfl
          have n3 : w2.cell? ⟨nb, 3, none⟩ = some (.int .i64 tk.place) := by rw [Lib.cell_of_heap N2]; rfl
          clear N2 U2
          go_quiet (fail)
          go_wp2
          go_roundw
          case rel => exact ⟨k + 1, by omega, by go_num, below_drewN hba _⟩
          case measure => simp [intOf]; omega
        · obtain rfl : k = toks.length := by omega
          have hkI : decide ((toks.length : Int) < (toks.length : Int)) = false := decide_eq_false (by omega)
          go_wp2
          go_ret
          exact ⟨rfl, hbw.trans (hbl.mono hzo)⟩
end Go.Proofs.YtdjkibbnkklajaaGreatDoor
