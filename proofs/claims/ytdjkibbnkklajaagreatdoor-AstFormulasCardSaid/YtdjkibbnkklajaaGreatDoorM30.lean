/- The walks of the code that the claim reaches, and the plain laws: ReadW11, AsW2, FofW, AstW1. No condition of ours. -/
import Derived.Test.YtdjkibbnkklajaaGreatDoorM29
import Derived.Test.YtdjkibbnkklajaaGreatDoorM23
import Derived.Test.YtdjkibbnkklajaaGreatDoorM21
import Derived.Test.YtdjkibbnkklajaaGreatDoorM22
import Derived.Test.YtdjkibbnkklajaaGreatDoorM15
namespace Go.Proofs.YtdjkibbnkklajaaGreatDoor
open Go.RowKit Go

def argsIts : List CE → List (Option CE)
  | [] => []
  | e :: l => some e :: (match l with | [] => [] | _ :: _ => none :: argsIts l)
theorem argsIts_two (e f : CE) (l : List CE) : argsIts (e :: f :: l) = some e :: none :: argsIts (f :: l) := by
  conv => lhs; rw [argsIts]
theorem argsIts_pt : ∀ l : List CE, (argsIts l).map itPT = argsPT l
  | [] => by simp [argsIts, argsPT]
  | [e] => by simp [argsIts, argsPT, itPT]
  | e :: f :: l => by
    rw [argsIts_two, argsPT_two, List.map_cons, List.map_cons, argsIts_pt (f :: l)]
    rfl
theorem subs_args (toks : List Tok) : ∀ (l : List CE) (u : Nat), (subsF (argsIts l ++ [none]) u).map (fun p => p.1.pe toks p.2) = argsPE toks u l
  | [], u => by simp [argsIts, subsF, argsPE]
  | [e], u => by simp [argsIts, subsF, argsPE]
  | e :: f :: l, u => by
    rw [argsIts_two, List.cons_append, List.cons_append, subsF, subsF, List.map_cons, subs_args toks (f :: l)]
    conv => rhs; rw [argsPE]
theorem subs_ok {E : REnv} : ∀ (l : List CE) (u : Nat), argsOk E.toks E.cl u l → u + lvL (argsPT l) ≤ E.toks.length → (∀ e ∈ l, ∀ v, e.ok E.toks E.cl v → v + e.pt.lv ≤ E.toks.length → E.reads e v) → ∀ p ∈ subsF (argsIts l ++ [none]) u, E.reads p.1 p.2
  | [], u, _, _, _, p, hp => by simp [argsIts, subsF] at hp
  | [e], u, ho, hl, hr, p, hp => by
    rw [argsOk] at ho
    rw [argsPT_one] at hl
    simp only [lvL] at hl
    have h : p = (e, u) := by simpa [argsIts, subsF] using hp
    subst h
    exact hr e List.mem_cons_self u ho.1 (by omega)
  | e :: f :: l, u, ho, hl, hr, p, hp => by
    rw [argsOk] at ho
    rw [argsPT_two] at hl
    simp only [lvL, PT.lv] at hl
    rw [argsIts_two, List.cons_append, List.cons_append, subsF, subsF] at hp
    rcases List.mem_cons.1 hp with rfl | hp
    · exact hr e List.mem_cons_self u ho.1 (by omega)
    · exact subs_ok (f :: l) _ ho.2 (by omega) (fun x hx => hr x (List.mem_cons_of_mem _ hx)) p hp

theorem rep_node {nodes : List Nd} {i : Nat} {u k : Nat} {l : List PT} (h : Rep nodes i u (.node k l)) : ∃ ks, nodes[i]? = some ⟨(k : Nat), -1, ks⟩ ∧ RepL nodes ks u l := by
  rw [Rep] at h
  obtain ⟨ks, _, h1, h2⟩ := h
  rw [Int.toNat_natCast] at h1
  exact ⟨ks, h1, h2⟩
theorem kids_few {E : REnv} (hE : E.ok) {ks : List Int} {u : Nat} {its : List (Option CE)} (h : RepL E.nodes ks u (its.map itPT)) (hl : lvL (its.map itPT) ≤ E.toks.length) : ks.length ≤ 1000000000 := by
  have h1 := (repL_len h).1
  have h2 := items_len its
  have h3 := hE.len
  rw [List.length_map] at h1
  omega

theorem rexpr_reads (E : REnv) (hE : E.ok) : ∀ (n : Nat) (e : CE) (u : Nat), SizeOf.sizeOf e < n → e.ok E.toks E.cl u → u + e.pt.lv ≤ E.toks.length → E.reads e u
  | 0, e, u, h, _, _ => absurd h (by omega)
  | n + 1, .num, u, _, ho, hl => by
    intro i W hrep hAt
    rw [CE.ok] at ho
    rw [CE.pt] at hrep hl
    simp only [PT.lv, lvL] at hl
    obtain ⟨ks, hn, hr⟩ := rep_node hrep
    obtain ⟨k0, ks', rfl, h0, _⟩ := repL_leaf hr
    rw [CE.pe]
    exact rexpr_num _ _ E.B E.tv E.nv E.toks E.nodes i _ W hAt.1 hAt.2 hn k0 u rfl h0 _ (tok_peek (by omega)) (hE.nums u (by omega) ho)
  | n + 1, .truth, u, _, ho, hl => by
    intro i W hrep hAt
    rw [CE.ok] at ho
    rw [CE.pt] at hrep hl
    simp only [PT.lv, lvL] at hl
    obtain ⟨ks, hn, hr⟩ := rep_node hrep
    obtain ⟨k0, ks', rfl, h0, _⟩ := repL_leaf hr
    rw [CE.pe]
    rcases ho with ho | ho
    · rw [decide_eq_true ho]
      exact rexpr_true E.B E.tv E.nv E.toks E.nodes i _ W hAt.1 hAt.2 hn k0 u rfl h0 _ (tok_peek (by omega)) ho
    · rw [decide_eq_false (by rw [ho]; decide)]
      exact rexpr_false E.B E.tv E.nv E.toks E.nodes i _ W hAt.1 hAt.2 hn k0 u rfl h0 _ (tok_peek (by omega)) ho
  | n + 1, .res, u, _, ho, hl => by
    intro i W hrep hAt
    rw [CE.pt] at hrep hl
    simp only [PT.lv, lvL] at hl
    obtain ⟨ks, hn, hr⟩ := rep_node hrep
    obtain ⟨k0, ks', rfl, h0, _⟩ := repL_leaf hr
    rw [CE.pe]
    exact rexpr_res E.B E.tv E.nv E.toks E.nodes i _ W hAt.1 hAt.2 hn k0 u rfl h0 _ (tok_peek (by omega))
  | n + 1, .nam, u, _, ho, hl => by
    intro i W hrep hAt
    rw [CE.pt] at hrep hl
    simp only [PT.lv, lvL] at hl
    obtain ⟨ks, hn, hr⟩ := rep_node hrep
    obtain ⟨k0, ks', rfl, h0, _⟩ := repL_leaf hr
    rw [CE.pe]
    exact rexpr_name E.B E.tv E.nv E.toks E.nodes i _ W hAt.1 hAt.2 hn k0 u rfl h0 _ (tok_peek (by omega))
  | n + 1, .group e, u, hs, ho, hl => by
    intro i W hrep hAt
    rw [CE.ok] at ho
    rw [CE.pt] at hrep hl
    simp only [PT.lv, lvL] at hl
    simp only [CE.group.sizeOf_spec] at hs
    obtain ⟨ks, hn, hr⟩ := rep_node hrep
    obtain ⟨k0, ks', rfl, h0, hr⟩ := repL_leaf hr
    obtain ⟨k1, ks', rfl, h1, _⟩ := repL_sub hr
    rw [CE.pe]
    exact rexpr_group _ E.B E.tv E.nv E.toks E.nodes i _ W hAt.1 hAt.2 hn k0 u rfl h0 _ (tok_peek (by omega)) k1 rfl (fun W hT hB => rexpr_reads E hE n e (u + 1) (by omega) ho.2 (by omega) k1 W h1 ⟨hT, hB⟩)
  | n + 1, .un e, u, hs, ho, hl => by
    intro i W hrep hAt
    rw [CE.ok] at ho
    rw [CE.pt] at hrep hl
    simp only [PT.lv, lvL] at hl
    simp only [CE.un.sizeOf_spec] at hs
    obtain ⟨ks, hn, hr⟩ := rep_node hrep
    have hM := made_items E [none, some e] ks u i _ hn hr (kids_few hE (its := [none, some e]) hr (by simp only [List.map_cons, List.map_nil, itPT, lvL, PT.lv]; omega)) (fun p hp => by
      have h : p = (e, u + 1) := by simpa [subsF] using hp
      subst h
      exact rexpr_reads E hE n e (u + 1) (by omega) ho.2 (by omega))
    obtain ⟨k0, ks', rfl, h0, _⟩ := repL_leaf hr
    rw [CE.pe]
    rcases ho.1 with h | h
    · rw [if_pos h]
      exact rexpr_not _ E.B E.tv E.nv E.toks E.nodes i _ W hAt.1 hAt.2 hn k0 u rfl h0 _ (tok_peek (by omega)) h hM
    · rw [if_neg (by rw [h]; decide)]
      exact rexpr_neg _ E.B E.tv E.nv E.toks E.nodes i _ W hAt.1 hAt.2 hn k0 u rfl h0 _ (tok_peek (by omega)) h hM
  | n + 1, .bin a b, u, hs, ho, hl => by
    intro i W hrep hAt
    rw [CE.ok] at ho
    rw [CE.pt] at hrep hl
    simp only [PT.lv, lvL] at hl
    simp only [CE.bin.sizeOf_spec] at hs
    obtain ⟨ks, hn, hr⟩ := rep_node hrep
    have hM := made_items E [some a, none, some b] ks u i _ hn hr (kids_few hE (its := [some a, none, some b]) hr (by simp only [List.map_cons, List.map_nil, itPT, lvL, PT.lv]; omega)) (fun p hp => by
      have h : p = (a, u) ∨ p = (b, u + a.pt.lv + 1) := by simpa [subsF] using hp
      rcases h with rfl | rfl
      · exact rexpr_reads E hE n a u (by omega) ho.2.1 (by omega)
      · exact rexpr_reads E hE n b _ (by omega) ho.2.2 (by omega))
    obtain ⟨k0, ks', rfl, h0, hr⟩ := repL_sub hr
    obtain ⟨k1, ks', rfl, h1, _⟩ := repL_leaf hr
    obtain ⟨c, la, ea, c1, c2⟩ := a.node
    rw [ea] at h0
    obtain ⟨ksa, hna, _⟩ := rep_node h0
    rw [CE.pe]
    refine rexpr_bin _ E.B E.tv E.nv E.toks E.nodes i _ W hAt.1 hAt.2 hn k0 _ rfl hna (by simp only; omega) (fun W' hT hB => ?_)
    exact rbinary_any _ E.B E.tv E.nv E.toks E.nodes i _ W' hT hB hn k1 (u + a.pt.lv) rfl h1 _ (tok_peek (by omega)) ho.1 hM
  | n + 1, .iff a b c, u, hs, ho, hl => by
    intro i W hrep hAt
    rw [CE.ok] at ho
    rw [CE.pt] at hrep hl
    simp only [PT.lv, lvL] at hl
    simp only [CE.iff.sizeOf_spec] at hs
    obtain ⟨ks, hn, hr⟩ := rep_node hrep
    have hM := made_items E [none, some a, none, some b, none, some c] ks u i _ hn hr (kids_few hE (its := [none, some a, none, some b, none, some c]) hr (by simp only [List.map_cons, List.map_nil, itPT, lvL, PT.lv]; omega)) (fun p hp => by
      have h : p = (a, u + 1) ∨ p = (b, u + 1 + a.pt.lv + 1) ∨ p = (c, u + 1 + a.pt.lv + 1 + b.pt.lv + 1) := by simpa [subsF] using hp
      rcases h with rfl | rfl | rfl
      · exact rexpr_reads E hE n a _ (by omega) ho.2.1 (by omega)
      · exact rexpr_reads E hE n b _ (by omega) ho.2.2.1 (by omega)
      · exact rexpr_reads E hE n c _ (by omega) ho.2.2.2 (by omega))
    obtain ⟨k0, ks', rfl, h0, _⟩ := repL_leaf hr
    rw [CE.pe]
    exact rexpr_if _ E.B E.tv E.nv E.toks E.nodes i _ W hAt.1 hAt.2 hn k0 u rfl h0 _ (tok_peek (by omega)) hM
  | n + 1, .lett a b, u, hs, ho, hl => by
    intro i W hrep hAt
    rw [CE.ok] at ho
    rw [CE.pt] at hrep hl
    simp only [PT.lv, lvL] at hl
    simp only [CE.lett.sizeOf_spec] at hs
    obtain ⟨ks, hn, hr⟩ := rep_node hrep
    have hM := made_items E [none, none, none, some a, none, some b] ks u i _ hn hr (kids_few hE (its := [none, none, none, some a, none, some b]) hr (by simp only [List.map_cons, List.map_nil, itPT, lvL, PT.lv]; omega)) (fun p hp => by
      have h : p = (a, u + 3) ∨ p = (b, u + 3 + a.pt.lv + 1) := by simpa [subsF] using hp
      rcases h with rfl | rfl
      · exact rexpr_reads E hE n a _ (by omega) ho.2.2.1 (by omega)
      · exact rexpr_reads E hE n b _ (by omega) ho.2.2.2 (by omega))
    obtain ⟨k0, ks', rfl, h0, hr⟩ := repL_leaf hr
    obtain ⟨k1, ks', rfl, h1, _⟩ := repL_leaf hr
    rw [CE.pe]
    exact rexpr_let _ E.B E.tv E.nv E.toks E.nodes i _ W hAt.1 hAt.2 hn k0 u rfl h0 _ (tok_peek (by omega)) k1 (u + 1) rfl h1 _ (tok_peek (by omega)) hM
  | n + 1, .asrt a b, u, hs, ho, hl => by
    intro i W hrep hAt
    rw [CE.ok] at ho
    rw [CE.pt] at hrep hl
    simp only [PT.lv, lvL] at hl
    simp only [CE.asrt.sizeOf_spec] at hs
    obtain ⟨ks, hn, hr⟩ := rep_node hrep
    have hM := made_items E [none, some a, none, some b] ks u i _ hn hr (kids_few hE (its := [none, some a, none, some b]) hr (by simp only [List.map_cons, List.map_nil, itPT, lvL, PT.lv]; omega)) (fun p hp => by
      have h : p = (a, u + 1) ∨ p = (b, u + 1 + a.pt.lv + 1) := by simpa [subsF] using hp
      rcases h with rfl | rfl
      · exact rexpr_reads E hE n a _ (by omega) ho.2.1 (by omega)
      · exact rexpr_reads E hE n b _ (by omega) ho.2.2 (by omega))
    obtain ⟨k0, ks', rfl, h0, _⟩ := repL_leaf hr
    rw [CE.pe]
    exact rexpr_assert _ E.B E.tv E.nv E.toks E.nodes i _ W hAt.1 hAt.2 hn k0 u rfl h0 _ (tok_peek (by omega)) hM
  | n + 1, .call q l, u, hs, ho, hl => by
    intro i W hrep hAt
    rw [CE.ok] at ho
    rw [CE.pt] at hrep hl
    simp only [CE.call.sizeOf_spec] at hs
    have hsz : ∀ e ∈ l, ∀ v, e.ok E.toks E.cl v → v + e.pt.lv ≤ E.toks.length → E.reads e v := fun e he v h1 h2 =>
      rexpr_reads E hE n e v (by have := List.sizeOf_lt_of_mem he; omega) h1 h2
    obtain ⟨ks, hn, hr⟩ := rep_node hrep
    cases q with
    | true =>
      simp only [if_true] at hr hl ho
      simp only [PT.lv, lvL_append, lvL] at hl
      have hr' : RepL E.nodes ks u (([none, none, none, none] ++ (argsIts l ++ [none])).map itPT) := by
        rw [List.map_append, List.map_append, argsIts_pt]
        simpa [itPT] using hr
      have hM := made_items E ([none, none, none, none] ++ (argsIts l ++ [none])) ks u i _ hn hr' (kids_few hE hr' (by rw [List.map_append, List.map_append, argsIts_pt]; simp only [List.map_cons, List.map_nil, itPT, lvL_append, lvL, PT.lv]; omega)) (fun p hp => by
        simp only [List.cons_append, List.nil_append, subsF] at hp
        exact subs_ok l (u + 4) ho.2.2.2.2.2 (by omega) hsz p hp)
      simp only [List.cons_append, List.nil_append, subsF] at hM
      rw [subs_args] at hM
      obtain ⟨k0, ks', rfl, h0, hr⟩ := repL_leaf hr
      obtain ⟨k1, ks', rfl, h1, hr⟩ := repL_leaf hr
      obtain ⟨k2, ks', rfl, h2, hr⟩ := repL_leaf hr
      rw [CE.pe, if_pos rfl]
      refine rexpr_call _ E.B E.tv E.nv E.toks E.nodes i _ W hAt.1 hAt.2 hn k0 u rfl h0 _ (tok_peek (by omega)) (fun W' hT hB => ?_)
      exact rcall_any true _ _ _ E.B E.tv E.nv E.toks E.nodes i _ W' hT hB hn k0 u rfl h0 _ (tok_peek (by omega)) k1 (u + 1) rfl h1 _ (tok_peek (by omega)) ho.2.2.2.1 k2 (u + 2) (fun _ => rfl) (fun _ => h2) _ (fun _ => tok_peek (by omega)) (.inl ⟨rfl, rfl, rfl⟩) hM
    | false =>
      simp only [Bool.false_eq_true, if_false] at hr hl ho
      simp only [PT.lv, lvL_append, lvL] at hl
      have hr' : RepL E.nodes ks u (([none, none] ++ (argsIts l ++ [none])).map itPT) := by
        rw [List.map_append, List.map_append, argsIts_pt]
        simpa [itPT] using hr
      have hM := made_items E ([none, none] ++ (argsIts l ++ [none])) ks u i _ hn hr' (kids_few hE hr' (by rw [List.map_append, List.map_append, argsIts_pt]; simp only [List.map_cons, List.map_nil, itPT, lvL_append, lvL, PT.lv]; omega)) (fun p hp => by
        simp only [List.cons_append, List.nil_append, subsF] at hp
        exact subs_ok l (u + 2) ho.2.2.2.2 (by omega) hsz p hp)
      simp only [List.cons_append, List.nil_append, subsF] at hM
      rw [subs_args] at hM
      obtain ⟨k0, ks', rfl, h0, hr⟩ := repL_leaf hr
      obtain ⟨k1, ks', rfl, h1, hr⟩ := repL_leaf hr
      rw [CE.pe, if_neg (by decide)]
      refine rexpr_call _ E.B E.tv E.nv E.toks E.nodes i _ W hAt.1 hAt.2 hn k0 u rfl h0 _ (tok_peek (by omega)) (fun W' hT hB => ?_)
      exact rcall_any false _ _ _ E.B E.tv E.nv E.toks E.nodes i _ W' hT hB hn k0 u rfl h0 _ (tok_peek (by omega)) k1 (u + 1) rfl h1 _ (tok_peek (by omega)) ho.2.2.2.1 0 0 (fun q => by cases q) (fun q => by cases q) (peekF E.toks u) (fun q => by cases q) (.inr ⟨rfl, rfl, rfl⟩) hM
end Go.Proofs.YtdjkibbnkklajaaGreatDoor

namespace Go.Proofs.YtdjkibbnkklajaaGreatDoor
open Go.RowKit Go

set_option maxHeartbeats 2000000 in
set_option maxRecDepth 100000 in
theorem as_no (w : World) :
    Calls Tryz.prog 18 #[.agg #[.slice none 0 0, .slice none 0 0], .func (.func 5) #[] #[]] w fun e w' => e = .returned (.bool false) ∧ Below w.heap.size w w' := by
  have HDump := Lib.hid (fun (W : World) => dump_no (-1) W)
  have HShow : Hid (∀ W : World, Calls Tryz.prog 34 #[.agg #[.slice none 0 0, .slice none 0 0]] W fun e w' => e = .returned (.string ⟨#[]⟩) ∧ Below W.heap.size W w') := Lib.hid fun W =>
    show_any 0 (.slice none 0 0) (.slice none 0 0) [] W (by simp) (by decide) (slNil _ _ _) (Nat.zero_le _)
  have HForm := Lib.hid (fun W => formula_any ⟨#[]⟩ 200 W (by omega) (by omega) (by decide))
  have hal := below_new w (.cells #[.slice none 0 0, .slice none 0 0] 26)
  have e1 := heap_alloc_new w (.cells #[.slice none 0 0, .slice none 0 0] 26)
  rw [show formF (ByteArray.mk #[]).data.toList 200 = .bad 22 0 from rfl] at HForm
  go_enter Tryz.func18, Tryz.ntmps18
  go_upto_region 1 with fail
  generalize w.alloc _ = w1 at hal e1 ⊢
  obtain ⟨c0, c1⟩ := tree_cells e1
  have hl1 := (Array.getElem?_eq_some_iff.1 e1).1
  go_cut [5, 6] (fun a e wx => a = .string ⟨#[]⟩ ∧ e = .int .i64 10 ∧ wx.heap[w.heap.size]? = some (.cells #[.slice none 0 0, .slice none 0 0] 26 (0, 0)) ∧ Below w.heap.size w wx)
  case first =>
    go_region_with (first | (go_at_call 9; refine (root_tree none 0 0 none 0 0 _ (by omega)).mono ?_; rintro e w5 ⟨rfl, hb5⟩; have d0 := (hb5.cell (p := ⟨w.heap.size, 0, none⟩) hl1).trans c0; have d1 := (hb5.cell (p := ⟨w.heap.size, 1, none⟩) hl1).trans c1) | (go_at_call 33; refine (HDump.out _).mono ?_; rintro e w6 ⟨rfl, hb6⟩))
    all_goals
      have hb56 := hal.drew.trans (hb5.mono hal.size)
      have T6 := (hb6.block w.heap.size (Nat.lt_of_lt_of_le hl1 hb5.size)).trans ((hb5.block w.heap.size hl1).trans e1)
      go_wp2_with fail
      go_meet
      exact ⟨rfl, rfl, T6, hb56.trans (hb6.mono hb56.size)⟩
  case rest =>
    obtain ⟨rfl, rfl, hT, hbc⟩ := hcut
    clear hal e1 c0 c1 hl1 w1
    obtain ⟨wo, rfl⟩ : ∃ wo : World, wo = wc := ⟨_, rfl⟩
    obtain ⟨c0, c1⟩ := tree_cells hT
    go_upto_region 3 with (first | (go_at_call 34; refine (HShow.out _).mono ?_; rintro e w7 ⟨rfl, hb7⟩) | (go_at_call 5; refine (HForm.out _).mono ?_; rintro e w8 ⟨hb8, rfl⟩))
    have hb78 := (hbc.trans (hb7.mono hbc.size))
    have hb88 := hb78.trans (hb8.mono hb78.size)
    have hal9 := (below_new w8 (.cells #[.slice none 0 0, .slice none 0 0] 26)).alloc (by simp) (.cells #[.int .i64 22, .int .i64 0] 29)
    have hU9 := (Lib.alloc_old (w8.alloc (.cells #[.slice none 0 0, .slice none 0 0] 26)) (.cells #[.int .i64 22, .int .i64 0] 29) w8.heap.size (by simp)).trans (heap_alloc_new w8 (.cells #[.slice none 0 0, .slice none 0 0] 26))
    have hb9 := hb88.trans (hal9.mono hb88.size)
    clear hb7 hb8 hal9 hb78 hT hbc c0 c1 HShow HForm
    generalize w8.heap.size = ub at hU9 hb88 ⊢
    generalize (w8.alloc _).alloc _ = w9 at hU9 hb9 ⊢
    obtain ⟨c0, c1⟩ := tree_cells hU9
    have hl9 := (Array.getElem?_eq_some_iff.1 hU9).1
    go_cut [9, 10] (fun a e wx => Below w.heap.size w wx)
    case first =>
      go_region_with (first | (go_at_call 9; refine (root_tree none 0 0 none 0 0 _ (by omega)).mono ?_; rintro e w5 ⟨rfl, hb5⟩; have d0 := (hb5.cell (p := ⟨ub, 0, none⟩) hl9).trans c0; have d1 := (hb5.cell (p := ⟨ub, 1, none⟩) hl9).trans c1) | (go_at_call 33; refine (HDump.out _).mono ?_; rintro e w6 ⟨rfl, hb6⟩))
      all_goals
        have hb56 := (Below.refl w9.heap.size w9).drew.trans hb5
        go_wp2_with fail
        go_meet
        exact hb9.trans ((hb56.trans (hb6.mono hb56.size)).mono hb9.size)
    case rest =>
      clear c0 c1 hl9 hU9 hb9 hb88
      go_wp2
      go_ret
      exact ⟨rfl, hcut⟩
end Go.Proofs.YtdjkibbnkklajaaGreatDoor

namespace Go.Proofs.YtdjkibbnkklajaaGreatDoor
open Go.RowKit Go

def FofPost (x : PE) (w : World) (r : Ending) (w' : World) : Prop :=
  ∃ am wn cm ae ce, r = .returned (.tuple #[.agg #[.int .i64 x.op, .string ⟨x.name.toArray⟩, .string ⟨x.module.toArray⟩, .bool (decide (x.num < 0)), .slice am wn cm, .bool x.yes, .slice ae x.kids.length ce, .int .i64 x.at_], .int .i64 0]) ∧
    EAt XA (fun b => w.heap.size ≤ b) w' (.slice am wn cm) (.slice ae x.kids.length ce) x ∧ Below w.heap.size w w'

/-- What the reader leaves, spelt out. -/
def EPostZ (x : PE) (w : World) (e : Ending) (w' : World) : Prop :=
  ∃ am wn cm ae ce, e = .returned (.agg #[.int .i64 x.op, .string ⟨x.name.toArray⟩, .string ⟨x.module.toArray⟩, .bool (decide (x.num < 0)), .slice am wn cm, .bool x.yes, .slice ae x.kids.length ce, .int .i64 x.at_]) ∧
    EAt XA (fun b => w.heap.size ≤ b) w' (.slice am wn cm) (.slice ae x.kids.length ce) x ∧ Below w.heap.size w w'
theorem EPostA.s {x : PE} {w w' : World} {e : Ending} (h : EPostA x w e w') : EPostZ x w e w' := h

theorem env_ok {S : List UInt8} {toks : List Tok} {nodes : List Nd} {ce : CE} (F : FGood S toks nodes ce) (B : Nat) (tv nv : Value) : REnv.ok ⟨B, tv, nv, toks, nodes, true⟩ where
  len := F.good.fewt
  nums u hu hk W := by
    have h := lexAll_nums F.lexed _ (peek_mem (lexAll_laid F.lexed).some u) hk
    obtain ⟨X, hX, eX⟩ := bytes_of (textAt toks u)
    simp only
    rw [eX, ← hX]
    have h' : numTok X.data.toList := by rw [hX]; exact h
    refine zparse_any X W ?_ ?_ h'.1 (fun q => by rw [← size_list]; exact h'.2.2.2 q)
    · rw [← size_list]; exact List.length_pos_iff.2 h'.2.1
    · rw [← size_list]; exact h'.2.2.1

theorem root_kid {S : List UInt8} {toks : List Tok} {nodes : List Nd} {ce : CE} (F : FGood S toks nodes ce) : ∃ (r k : Nat) (ks : List Int), nodes.length = r + 1 ∧ nodes[r]? = some ⟨18, -1, (k : Int) :: ks⟩ ∧ Rep nodes k 0 ce.pt := by
  have hr := Rep.em (pre := []) (aloneT ce) 0 0 rfl
  have hnd : nodes.length = (aloneT ce).nd := by rw [F.nodes_eq, PT.em_len]
  have hp := (aloneT ce).nd_pos
  rw [List.nil_append, Nat.zero_add, ← F.nodes_eq, ← hnd] at hr
  obtain ⟨r, hr1⟩ : ∃ r, nodes.length = r + 1 := ⟨nodes.length - 1, by omega⟩
  rw [hr1, show (((r + 1 : Nat) : Int) - 1) = (r : Int) by omega, aloneT] at hr
  obtain ⟨ks, h1, h2⟩ := rep_node hr
  obtain ⟨k, ks', rfl, h3, _⟩ := repL_sub h2
  exact ⟨r, k, ks', hr1, h1, h3⟩

theorem expr_cells {w : World} {b : Nat} {c0 c1 c2 c3 c4 c5 c6 c7 : Value} (h : w.heap[b]? = some (.cells #[c0, c1, c2, c3, c4, c5, c6, c7] 37 (0, 0))) :
    w.cell? ⟨b, 0, none⟩ = some c0 ∧ w.cell? ⟨b, 1, none⟩ = some c1 ∧ w.cell? ⟨b, 2, none⟩ = some c2 ∧ w.cell? ⟨b, 3, none⟩ = some c3 ∧ w.cell? ⟨b, 4, none⟩ = some c4 ∧ w.cell? ⟨b, 5, none⟩ = some c5 ∧ w.cell? ⟨b, 6, none⟩ = some c6 ∧ w.cell? ⟨b, 7, none⟩ = some c7 ∧ ∀ j, w.frozen? ⟨b, j, none⟩ = false := by
  refine ⟨?_, ?_, ?_, ?_, ?_, ?_, ?_, ?_, fun j => by simp [World.frozen?, h]⟩ <;> (rw [Lib.cell_of_heap h]; rfl)

set_option maxHeartbeats 1000000 in
set_option maxRecDepth 100000 in
theorem formulaOf_no (w : World) :
    Calls Tryz.prog 6 #[.agg #[.slice none 0 0, .slice none 0 0]] w fun e w' => e = .returned (.tuple #[.agg #[.int .i64 0, .string ⟨#[]⟩, .string ⟨#[]⟩, .bool false, .slice none 0 0, .bool false, .slice none 0 0, .int .i64 0], .int .i64 10]) ∧ Below w.heap.size w w' := by
  have HA := Lib.hid (fun W => as_no W)
  have hal := (below_new w (.cells #[.slice none 0 0, .slice none 0 0] 26)).alloc (by simp) (.cells #[.int .i64 0, .string ⟨#[]⟩, .string ⟨#[]⟩, .bool false, .slice none 0 0, .bool false, .slice none 0 0, .int .i64 0] 37)
  have e2 := heap_alloc_new (w.alloc (.cells #[.slice none 0 0, .slice none 0 0] 26)) (.cells #[.int .i64 0, .string ⟨#[]⟩, .string ⟨#[]⟩, .bool false, .slice none 0 0, .bool false, .slice none 0 0, .int .i64 0] 37)
  rw [World.size_alloc] at e2
  go_enter Tryz.func6, Tryz.ntmps6
  go_upto_region 2 with (go_at_call 18; refine (HA.out _).mono ?_; rintro e w3 ⟨rfl, hb3⟩)
  have E3 := (hb3.block (w.heap.size + 1) (by simp)).trans e2
  have hb4 := hal.trans (hb3.mono (by simp; omega))
  obtain ⟨r0, r1, r2, r3, r4, r5, r6, r7, rz⟩ := expr_cells E3
  clear hb3 e2 hal HA E3
  go_wp2
  refine bodyPost_ret (v := .tuple #[.agg #[.int .i64 0, .string ⟨#[]⟩, .string ⟨#[]⟩, .bool false, .slice none 0 0, .bool false, .slice none 0 0, .int .i64 0], .int .i64 10]) (by simp [results, Tryz.results6, go_sem, r0, r1, r2, r3, r4, r5, r6, r7]) rfl ⟨rfl, ?_⟩
  exact ((((((((hb4.setCell (by simp) _).setCell (by simp) _).setCell (by simp) _).setCell (by simp) _).setCell (by simp) _).setCell (by simp) _).setCell (by simp) _).setCell (by simp) _)

set_option maxHeartbeats 4000000 in
set_option maxRecDepth 100000 in
theorem formulaOf_yes (B : Nat) (at_ : Option Addr) (ct : Nat) (an : Option Addr) (cn : Nat) (S : ByteArray) (toks : List Tok) (nodes : List Nd) (ce : CE) (w : World) (h : TreeAt B w (.agg #[.slice at_ toks.length ct, .slice an nodes.length cn]) toks nodes) (hB : B ≤ w.heap.size) (F : FGood S.data.toList toks nodes ce) :
    Calls Tryz.prog 6 #[.agg #[.slice at_ toks.length ct, .slice an nodes.length cn]] w (FofPost (ce.pe toks 0) w) := by
  have hft := F.good.fewt
  have hfn := F.good.few
  obtain ⟨r, k, ks, hr1, hn, hrep⟩ := root_kid F
  have HA := Lib.hid (fun W (hW : Below w.heap.size w W) => as_yes B at_ ct an cn S toks nodes _ W (h.below (hW.mono hB)) (Nat.le_trans hB hW.size) F.good (by have := F.small; rw [size_list] at this; exact this) F.whole F.deep)
  have HX : Hid (∀ W, Below w.heap.size w W → Calls Tryz.prog 19 #[.agg #[.slice at_ toks.length ct, .slice an nodes.length cn], .int .i64 k] W (EPostZ (ce.pe toks 0) W)) := Lib.hid (fun W hW => by
    have hx := rexpr_reads ⟨B, .slice at_ toks.length ct, .slice an nodes.length cn, toks, nodes, true⟩ (env_ok F B _ _) (SizeOf.sizeOf ce + 1) ce 0 (by omega) F.okk (by have := F.lv; show 0 + ce.pt.lv ≤ toks.length; omega)
    have hy := hx k W hrep ⟨h.below (hW.mono hB), Nat.le_trans hB hW.size⟩
    exact hy.mono fun _ _ h => h.a.s)
  have HT := Lib.hid h
  have HN := Lib.hid hn
  have HR1 := Lib.hid hr1
  clear hr1
  generalize ce.pe toks 0 = x at HX ⊢
  have hal := (below_new w (.cells #[.slice at_ toks.length ct, .slice an nodes.length cn] 26)).alloc (by simp) (.cells #[.int .i64 0, .string ⟨#[]⟩, .string ⟨#[]⟩, .bool false, .slice none 0 0, .bool false, .slice none 0 0, .int .i64 0] 37)
  have e1 := (Lib.alloc_old (w.alloc (.cells #[.slice at_ toks.length ct, .slice an nodes.length cn] 26)) (.cells #[.int .i64 0, .string ⟨#[]⟩, .string ⟨#[]⟩, .bool false, .slice none 0 0, .bool false, .slice none 0 0, .int .i64 0] 37) w.heap.size (by simp)).trans (heap_alloc_new w (.cells #[.slice at_ toks.length ct, .slice an nodes.length cn] 26))
  have e2 := heap_alloc_new (w.alloc (.cells #[.slice at_ toks.length ct, .slice an nodes.length cn] 26)) (.cells #[.int .i64 0, .string ⟨#[]⟩, .string ⟨#[]⟩, .bool false, .slice none 0 0, .bool false, .slice none 0 0, .int .i64 0] 37)
  rw [World.size_alloc] at e2
  clear h F hrep hn
  go_enter Tryz.func6, Tryz.ntmps6
  go_upto_region 3 with (go_at_call 18; refine (HA.out _ hal).mono ?_; rintro e w3 ⟨rfl, hb3⟩)
  have E1 := (hb3.block w.heap.size (by simp; omega)).trans e1
  have E2 := (hb3.block (w.heap.size + 1) (by simp)).trans e2
  have hb4 := hal.trans (hb3.mono (by simp; omega))
  obtain ⟨hi, hni⟩ := List.getElem?_eq_some_iff.1 HN.out
  obtain ⟨b, off, cap, kv, hnv, hbB, x0, x1, x2, hkv⟩ := (HT.out.below (hb4.mono hB)).node hi
  simp only [Value.slice.injEq] at hnv
  obtain ⟨rfl, -, rfl⟩ := hnv
  rw [hni] at hkv
  obtain ⟨ak, ck, rfl, _, hkf⟩ := hkv.form
  simp only at x2 hkf
  obtain ⟨bk, ok, rfl, hbk, hkc⟩ := hkf (by simp)
  have k0 := hkc 0 (by simp)
  simp only [List.getElem_cons_zero, Nat.add_zero] at k0
  obtain ⟨c0, c1⟩ := tree_cells E1
  have hz4 := hb4.size
  have hl1 := (Array.getElem?_eq_some_iff.1 E1).1
  have hl2 := (Array.getElem?_eq_some_iff.1 E2).1
  have hr1 := HR1.out
  have HNI : Hid (((nodes.length : Int) - 1) = (r : Int)) := Lib.hid (by omega)
  have hrI : (r : Int) < (nodes.length : Int) := by omega
  clear hb3 e1 e2 hal HA x0 x1 hkc hkf hkv hni HT HN E1 hr1 HR1
  go_region_with (first | (go_at_call 9; refine (root_tree at_ toks.length ct (some ⟨b, off, none⟩) nodes.length cn _ (by omega)).mono ?_; rintro e w5 ⟨rfl, hb5⟩; rw [HNI.out]; have d0 := (hb5.cell (p := ⟨w.heap.size, 0, none⟩) hl1).trans c0; have d1 := (hb5.cell (p := ⟨w.heap.size, 1, none⟩) hl1).trans c1; have dx := (hb5.cell (p := ⟨b, off + r * 3 + 2, none⟩) (by show b < w3.heap.size; omega)).trans x2; have dk := (hb5.cell (p := ⟨bk, ok, none⟩) (by show bk < w3.heap.size; omega)).trans k0) | (go_at_call 19; refine (HX.out _ (hb4.drew.trans (hb5.mono hz4))).mono ?_; rintro e w6 ⟨am, wn, cm, ae, c6, rfl, hx6, hb6⟩; have E6 := (hb6.block (w.heap.size + 1) (Nat.lt_of_lt_of_le hl2 hb5.size)).trans ((hb5.block (w.heap.size + 1) hl2).trans E2); obtain ⟨r0, r1, r2, r3, r4, r5, r6, r7, rz⟩ := expr_cells E6; have HX6 := Lib.hid hx6; have HB6 := Lib.hid hb6; have HB5 := Lib.hid hb5; clear hx6 hb6 hb5 E6 d0 d1 dx dk))
  all_goals
    have hb56 := hb4.drew.trans (HB5.out.mono hz4)
    have hb66 := hb56.trans (HB6.out.mono hb56.size)
    have hz5 := hb56.size
    have hl5 : w.heap.size + 1 < w5.heap.size := Nat.lt_of_lt_of_le hl2 HB5.out.size
    have hx6' : EAt XA (fun b => w.heap.size + 1 < b) w6 (.slice am wn cm) (.slice ae x.kids.length c6) x := HX6.out.imp (fun b hb _ => by omega)
    clear HX6 HB6 HB5 hb56 hb4 c0 c1 x2 k0 E2 HX HNI
    go_wp2
    refine bodyPost_ret (v := .tuple #[.agg #[.int .i64 x.op, .string ⟨x.name.toArray⟩, .string ⟨x.module.toArray⟩, .bool (decide (x.num < 0)), .slice am wn cm, .bool x.yes, .slice ae x.kids.length c6, .int .i64 x.at_], .int .i64 0]) (by simp [results, Tryz.results6, go_sem, r0, r1, r2, r3, r4, r5, r6, r7]) rfl ⟨am, wn, cm, ae, c6, rfl, ?_, ?_⟩
    · exact (hx6'.frame (((((((Alk.set _ (fun b hb => by show b ≠ w.heap.size + 1; omega)).trans (Alk.set _ (fun b hb => by show b ≠ w.heap.size + 1; omega))).trans (Alk.set _ (fun b hb => by show b ≠ w.heap.size + 1; omega))).trans (Alk.set _ (fun b hb => by show b ≠ w.heap.size + 1; omega))).trans (Alk.set _ (fun b hb => by show b ≠ w.heap.size + 1; omega))).trans (Alk.set _ (fun b hb => by show b ≠ w.heap.size + 1; omega))).trans ((Alk.set _ (fun b hb => by show b ≠ w.heap.size + 1; omega)).trans (Alk.set _ (fun b hb => by show b ≠ w.heap.size + 1; omega))))).imp (fun b hb _ => by omega)
    · exact ((((((((hb66.setCell (by simp) _).setCell (by simp) _).setCell (by simp) _).setCell (by simp) _).setCell (by simp) _).setCell (by simp) _).setCell (by simp) _).setCell (by simp) _)
end Go.Proofs.YtdjkibbnkklajaaGreatDoor

namespace Go.Proofs.YtdjkibbnkklajaaGreatDoor
open Go.RowKit Go

set_option maxHeartbeats 1000000 in
set_option maxRecDepth 100000 in
theorem dumpX_any {M : Nat} (x : PE) (hf : x.fits M) (B : Nat) (am : Option Addr) (wn cm : Nat) (ae : Option Addr) (ce : Nat) (w : World) (h : EAt XA (fun b => b < B) w (.slice am wn cm) (.slice ae x.kids.length ce) x) (hB : B ≤ w.heap.size) (hd : x.dump.length ≤ 1099511627776) (hz : x.size ≤ 1099511627776) :
    Calls Tryz.prog 10 #[.agg #[.int .i64 x.op, .string ⟨x.name.toArray⟩, .string ⟨x.module.toArray⟩, .bool (decide (x.num < 0)), .slice am wn cm, .bool x.yes, .slice ae x.kids.length ce, .int .i64 x.at_]] w (StrPost x.dump w) := by
  have hbb := (below_new w (.cells (boxA x.op ⟨x.name.toArray⟩ ⟨x.module.toArray⟩ (decide (x.num < 0)) (.slice am wn cm) x.yes (.slice ae x.kids.length ce) x.at_) 37))
  have hbd := Bld.fresh (w.alloc (.cells (boxA x.op ⟨x.name.toArray⟩ ⟨x.module.toArray⟩ (decide (x.num < 0)) (.slice am wn cm) x.yes (.slice ae x.kids.length ce) x.at_) 37))
  rw [World.size_alloc] at hbd
  have hb2 := hbb.alloc hbb.size (.cells #[.pointer none, .slice none 0 0] 75)
  have hbox := (Lib.alloc_old _ (.cells #[.pointer none, .slice none 0 0] 75) w.heap.size (by simp)).trans (heap_alloc_new w (.cells (boxA x.op ⟨x.name.toArray⟩ ⟨x.module.toArray⟩ (decide (x.num < 0)) (.slice am wn cm) x.yes (.slice ae x.kids.length ce) x.at_) 37))
  have hHD := fun W hW hWB => edump_any (SizeOf.sizeOf x + 1) x (by omega) hf B (w.heap.size + 1) (w.heap.size + 1) am wn cm ae ce [] W hW (by omega) hWB
  have HD := Lib.hid hHD
  have HE := Lib.hid (fun W (hW : Below w.heap.size w W) => EAt.frame (Alk.ofB hW (fun b hb => by omega)) h)
  have hs2 : w.heap.size + 1 ≤ ((w.alloc (.cells (boxA x.op ⟨x.name.toArray⟩ ⟨x.module.toArray⟩ (decide (x.num < 0)) (.slice am wn cm) x.yes (.slice ae x.kids.length ce) x.at_) 37)).alloc (.cells #[.pointer none, .slice none 0 0] 75)).heap.size := by simp
  clear hbb hHD h
  go_enter Tryz.func10, Tryz.ntmps10
  go_upto_region 2 with fail
  change Code.wp _ _ _ _ ((w.alloc (.cells (boxA x.op ⟨x.name.toArray⟩ ⟨x.module.toArray⟩ (decide (x.num < 0)) (.slice am wn cm) x.yes (.slice ae x.kids.length ce) x.at_) 37)).alloc (.cells #[.pointer none, .slice none 0 0] 75))
  generalize (w.alloc _).alloc _ = w2 at hbd hb2 hbox hs2 ⊢
  obtain ⟨y0, y1, y2, y3, y4, y5, y6, y7⟩ := boxA_cells hbox
  have HC := Lib.hid (HD.out w2 (HE.out w2 hb2) hbd hs2 (by simpa using hd) hz)
  clear hbd hbox HD HE
  go_wp2_with (first | (go_at_call 23; refine HC.out.mono ?_; rintro e w3 ⟨rfl, hbd3, hl3, ho3⟩; rw [List.nil_append] at hbd3; have hz3 := hl3.size) | (go_at_call 24; refine (bstring_any _ _ x.dump _ hbd3 (by omega)).mono ?_; rintro e w4 ⟨rfl, hbd4, hl4, ho4⟩))
  go_ret
  exact ⟨rfl, hb2.trans ((hl3.trans hl4).mono (by omega))⟩

theorem int_beq {a b : Nat} (h : a = b) : ((a : Int) == (b : Int)) = true := by rw [h]; exact beq_self_eq_true _

set_option maxHeartbeats 2000000 in
set_option maxRecDepth 100000 in
theorem anchor_any (w : World) : Calls Tryz.prog 4 #[] w fun e w' => e = .returned (.bool true) ∧ Below w.heap.size w w' := by
  obtain ⟨toks, nodes, hform, F, hd, hsz, hat⟩ : ∃ toks nodes, formF (ByteArray.mk #[40, 120, 41, 43, 49]).data.toList 9 = .good toks nodes ∧ FGood (ByteArray.mk #[40, 120, 41, 43, 49]).data.toList toks nodes exC ∧ (exC.pe toks 0).dump = [91, 55, 32, 91, 51, 32, 120, 93, 32, 91, 49, 32, 49, 93, 93] ∧ (exC.pe toks 0).size = 3 ∧ (exC.pe toks 0).at_ = 3 := ⟨exF, _, exF_form, ex_good, ex_dump, ex_size, by rw [ex_pe]; rfl⟩
  have HF := Lib.hid (fun W => formula_any ⟨#[40, 120, 41, 43, 49]⟩ 9 W (by omega) (by omega) (by decide))
  rw [hform] at HF
  have hfit := F.fits
  have HFo := Lib.hid (fun B at_ ct an cn W hT hB => formulaOf_yes B at_ ct an cn ⟨#[40, 120, 41, 43, 49]⟩ toks nodes exC W hT hB F)
  generalize exC.pe toks 0 = x at HFo hd hsz hat hfit
  have HDX : Hid (∀ (B : Nat) (am : Option Addr) (wn cm : Nat) (ae : Option Addr) (ce : Nat) (W : World), EAt XA (fun b => b < B) W (.slice am wn cm) (.slice ae x.kids.length ce) x → B ≤ W.heap.size → Calls Tryz.prog 10 #[.agg #[.int .i64 x.op, .string ⟨x.name.toArray⟩, .string ⟨x.module.toArray⟩, .bool (decide (x.num < 0)), .slice am wn cm, .bool x.yes, .slice ae x.kids.length ce, .int .i64 x.at_]] W fun e w' => e = .returned (.string ⟨#[91, 55, 32, 91, 51, 32, 120, 93, 32, 91, 49, 32, 49, 93, 93]⟩) ∧ Below W.heap.size W w') := Lib.hid (fun B am wn cm ae ce W hE hB => (dumpX_any x hfit B am wn cm ae ce W hE hB (by rw [hd]; decide) (by omega)).mono fun e w' h => ⟨by rw [h.1, hd], h.2⟩)
  have HSX := Lib.hid (fun B am wn cm ae ce W hE hB => size_any (SizeOf.sizeOf x + 1) x (by omega) B am wn cm ae ce W hE hB (by omega))
  have h3a : ((x.at_ : Int) == 3) = true := int_beq hat
  have h3s : ((x.size : Int) == 3) = true := int_beq hsz
  clear hform hfit hd hsz hat F
  go_enter Tryz.func4, Tryz.ntmps4
  go_upto_region 2 with (go_at_call 5; refine (HF.out _).mono ?_; rintro e w1 ⟨hb1, at_, ct, an, cn, rfl, hty⟩)
  have hb2 := (below_new w1 (.cells #[.slice at_ toks.length ct, .slice an nodes.length cn] 26)).alloc (by simp) (.cells #[.int .i64 0, .int .i64 0] 29)
  have hT := (hty.at).below hb2
  have e1 := (Lib.alloc_old (w1.alloc (.cells #[.slice at_ toks.length ct, .slice an nodes.length cn] 26)) (.cells #[.int .i64 0, .int .i64 0] 29) w1.heap.size (by simp)).trans (heap_alloc_new w1 (.cells #[.slice at_ toks.length ct, .slice an nodes.length cn] 26))
  have hbw := hb1.trans (hb2.mono hb1.size)
  have hs2 := hb2.size
  clear hty hb1 hb2 HF
  generalize (w1.alloc _).alloc _ = w3 at hT e1 hbw hs2 ⊢
  obtain ⟨c0, c1⟩ := tree_cells e1
  have HFx := Lib.hid (HFo.out w1.heap.size at_ ct an cn w3 hT hs2)
  clear HFo hT e1
  go_upto_region 3 with (go_at_call 6; refine HFx.out.mono ?_; rintro e w4 ⟨am, wn, cm, ae, ce, rfl, hx4, hb4⟩)
  have hb5 := (hb4.alloc hb4.size (.cells (boxA x.op ⟨x.name.toArray⟩ ⟨x.module.toArray⟩ (decide (x.num < 0)) (.slice am wn cm) x.yes (.slice ae x.kids.length ce) x.at_) 37))
  have hbox := heap_alloc_new w4 (.cells (boxA x.op ⟨x.name.toArray⟩ ⟨x.module.toArray⟩ (decide (x.num < 0)) (.slice am wn cm) x.yes (.slice ae x.kids.length ce) x.at_) 37)
  have hx5 : EAt XA (fun b => b < w4.heap.size) (w4.alloc (.cells (boxA x.op ⟨x.name.toArray⟩ ⟨x.module.toArray⟩ (decide (x.num < 0)) (.slice am wn cm) x.yes (.slice ae x.kids.length ce) x.at_) 37)) (.slice am wn cm) (.slice ae x.kids.length ce) x := (hx4.imp (fun b _ h => h)).frame ⟨by simp, fun b _ hb => Lib.alloc_old _ _ _ hb⟩
  have hs5 : w4.heap.size ≤ (w4.alloc (.cells (boxA x.op ⟨x.name.toArray⟩ ⟨x.module.toArray⟩ (decide (x.num < 0)) (.slice am wn cm) x.yes (.slice ae x.kids.length ce) x.at_) 37)).heap.size := by simp
  have hbw5 := hbw.trans (hb5.mono hbw.size)
  clear hx4 hb4 hb5 hbw HFx c0 c1
  change Code.wp _ _ _ _ (w4.alloc (.cells (boxA x.op ⟨x.name.toArray⟩ ⟨x.module.toArray⟩ (decide (x.num < 0)) (.slice am wn cm) x.yes (.slice ae x.kids.length ce) x.at_) 37))
  generalize hbs : w4.heap.size = bs at hbox hx5 hs5 ⊢
  clear hbs
  generalize w4.alloc _ = w5 at hbox hx5 hs5 hbw5 ⊢
  obtain ⟨y0, y1, y2, y3, y4, y5, y6, y7⟩ := boxA_cells hbox
  have HD5 := Lib.hid (HDX.out bs am wn cm ae ce w5 hx5 hs5)
  have HE5 := Lib.hid hx5
  have HB5 := Lib.hid hbox
  clear hx5 hbox HDX
  go_wp2_with (first | (go_at_call 10; refine HD5.out.mono ?_; rintro e w6 ⟨rfl, hb6⟩; have hbox6 := (hb6.block bs (Array.getElem?_eq_some_iff.1 HB5.out).1).trans HB5.out; obtain ⟨z0, z1, z2, z3, z4, z5, z6, z7⟩ := boxA_cells hbox6; have HS6 := Lib.hid (HSX.out bs am wn cm ae ce w6 (HE5.out.frame (Alk.of hb6)) (Nat.le_trans hs5 hb6.size))) | (go_at_call 15; refine HS6.out.mono ?_; rintro e w7 ⟨rfl, hb7⟩))
  go_ret
  exact ⟨rfl, (hbw5.trans (hb6.mono hbw5.size)).trans (hb7.mono (Nat.le_trans hbw5.size hb6.size))⟩
end Go.Proofs.YtdjkibbnkklajaaGreatDoor
