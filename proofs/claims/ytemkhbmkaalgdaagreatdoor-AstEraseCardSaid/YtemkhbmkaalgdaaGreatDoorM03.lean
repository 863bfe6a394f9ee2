/- The walks of the code that the claim reaches, and the plain laws: ParseLaws2, ParseTree. No condition of ours. -/
import Derived.Test.YtemkhbmkaalgdaaGreatDoorM02
namespace Go.Proofs.YtemkhbmkaalgdaaGreatDoor
theorem deep_eq {toks : List Tok} {d d' n : Nat} {st : PSt} (hdd : d ≤ d') (h : (deepM toks d n st).fE = 0) : deepM toks d' n st = deepM toks d n st := by
  unfold deepM at h ⊢
  split at h
  · exact absurd h (failM_fE (by decide) st)
  · rename_i hn
    rw [if_neg hn, if_neg (by omega)]
theorem listLoop_deeper (toks : List Tok) (one one' : PSt → Option (Int × PSt)) (h1 : ∀ s k, one s = some k → PExt s k.2) (h2 : ∀ s k, one s = some k → k.2.fE = 0 → one' s = some k) : ∀ (r : Nat) (kids : List Int) (st : PSt) (l : List Int × PSt), listLoop toks one r kids st = some l → l.2.fE = 0 → listLoop toks one' r kids st = some l
  | 0, kids, st, l, h, _ => h
  | r + 1, kids, st, l, h, hl => by
    rw [listLoop] at h ⊢
    split at h
    · rename_i hf; rw [if_pos hf]; exact h
    · rename_i hf
      rw [if_neg hf]
      obtain ⟨k, hk, h⟩ := Option.bind_eq_some_iff.1 h
      have hk0 : k.2.fE = 0 := by
        split at h
        · exact ((leafM_ext toks k.2).trans (listLoop_ext toks one h1 r _ _ _ h)).zero hl
        · injection h with h; subst h; exact hl
      rw [h2 _ _ hk hk0, Option.bind_some]
      split at h
      · rename_i hc; rw [if_pos hc]; exact listLoop_deeper toks one one' h1 h2 r _ _ _ h hl
      · rename_i hc; rw [if_neg hc]; exact h
theorem listM_deeper (toks : List Tok) (one one' : PSt → Option (Int × PSt)) (h1 : ∀ s k, one s = some k → PExt s k.2) (h2 : ∀ s k, one s = some k → k.2.fE = 0 → one' s = some k) (st : PSt) (l : List Int × PSt) (h : listM toks one st = some l) (hl : l.2.fE = 0) : listM toks one' st = some l := by
  unfold listM at h ⊢
  split at h
  · rename_i hc; rw [if_pos hc]; exact h
  · rename_i hc; rw [if_neg hc]; exact listLoop_deeper toks one one' h1 h2 _ _ _ _ h hl
theorem run_deeper (toks : List Tok) (d d' : Nat) (hdd : d ≤ d') : ∀ (g : Nat) (t : Task) (st : PSt) (r : Int × PSt), run toks d g t st = some r → r.2.fE = 0 → run toks d' g t st = some r
  | 0, _, _, _, h, _ => by rw [run] at h; cases h
  | g + 1, .expr nest, st, r, h, hr => by
    have ih := run_deeper toks d d' hdd g
    have ex := run_ext toks d g
    have hd0 : (deepM toks d nest st).fE = 0 := by
      apply Classical.byContradiction
      intro q
      rw [run, if_pos q] at h
      injection h with h; subst h
      exact q hr
    rw [run] at h ⊢
    rw [deep_eq hdd hd0]
    generalize deepM toks d nest st = s at h hd0
    rw [if_neg (by simp [hd0])] at h ⊢
    split at h
    · rename_i hc; rw [if_pos hc]; exact ih _ _ _ h hr
    rename_i hc; rw [if_neg hc]
    split at h
    · rename_i hc; rw [if_pos hc]
      obtain ⟨x, h1, h⟩ := Option.bind_eq_some_iff.1 h
      obtain ⟨f, h2, h⟩ := Option.bind_eq_some_iff.1 h
      injection h with h; subst h
      have z2 := (nodeM_ext _ _ _).zero hr
      have z1 := ((mustM_ext _ _ _).trans (ex _ _ _ h2)).zero z2
      rw [ih _ _ _ h1 z1, Option.bind_some, ih _ _ _ h2 z2, Option.bind_some]
    rename_i hc; rw [if_neg hc]
    split at h
    · rename_i hc; rw [if_pos hc]
      obtain ⟨x, h1, h⟩ := Option.bind_eq_some_iff.1 h
      obtain ⟨y, h2, h⟩ := Option.bind_eq_some_iff.1 h
      obtain ⟨f, h3, h⟩ := Option.bind_eq_some_iff.1 h
      injection h with h; subst h
      have z3 := (nodeM_ext _ _ _).zero hr
      have z2 := ((mustM_ext _ _ _).trans (ex _ _ _ h3)).zero z3
      have z1 := ((mustM_ext _ _ _).trans (ex _ _ _ h2)).zero z2
      rw [ih _ _ _ h1 z1, Option.bind_some, ih _ _ _ h2 z2, Option.bind_some, ih _ _ _ h3 z3, Option.bind_some]
    rename_i hc; rw [if_neg hc]
    split at h
    · rename_i hc; rw [if_pos hc]
      obtain ⟨x, h1, h⟩ := Option.bind_eq_some_iff.1 h
      obtain ⟨f, h2, h⟩ := Option.bind_eq_some_iff.1 h
      injection h with h; subst h
      have z2 := (nodeM_ext _ _ _).zero hr
      have z1 := ((mustM_ext _ _ _).trans (ex _ _ _ h2)).zero z2
      rw [ih _ _ _ h1 z1, Option.bind_some, ih _ _ _ h2 z2, Option.bind_some]
    · rename_i hc; rw [if_neg hc]; exact ih _ _ _ h hr
  | g + 1, .formula nest, st, r, h, hr => by
    have ih := run_deeper toks d d' hdd g
    have ex := run_ext toks d g
    rw [run] at h ⊢
    obtain ⟨a, h1, h⟩ := Option.bind_eq_some_iff.1 h
    split at h
    · rename_i hn
      have hd0 : (deepM toks d (nest + 1) (leafM toks a.2).2).fE = 0 := by
        apply Classical.byContradiction
        intro q
        rw [if_pos q] at h
        injection h with h; subst h
        exact q hr
      rw [if_neg (by simp [hd0])] at h
      obtain ⟨b, h2, h⟩ := Option.bind_eq_some_iff.1 h
      injection h with h; subst h
      have z2 := (nodeM_ext _ _ _).zero hr
      have z1 := ((leafM_ext toks a.2).trans (deepM_ext _ _ _ _)).zero hd0
      rw [ih _ _ _ h1 z1, Option.bind_some, if_pos hn, deep_eq hdd hd0, if_neg (by simp [hd0]), ih _ _ _ h2 z2, Option.bind_some]
    · rename_i hn
      injection h with h; subst h
      rw [ih _ _ _ h1 hr, Option.bind_some, if_neg hn]
  | g + 1, .part l nest, st, r, h, hr => by
    have ih := run_deeper toks d d' hdd g
    rw [run] at h ⊢
    split at h
    · rename_i hc; rw [if_pos hc]; exact ih _ _ _ h hr
    · rename_i hc; rw [if_neg hc]
      split at h
      · rename_i hc; rw [if_pos hc]; exact ih _ _ _ h hr
      · rename_i hc; rw [if_neg hc]; exact ih _ _ _ h hr
  | g + 1, .row l nest, st, r, h, hr => by
    have ih := run_deeper toks d d' hdd g
    have ex := run_ext toks d g
    rw [run] at h ⊢
    obtain ⟨a, h1, h⟩ := Option.bind_eq_some_iff.1 h
    rw [ih _ _ _ h1 ((ex _ _ _ h).zero hr), Option.bind_some]
    exact ih _ _ _ h hr
  | g + 1, .loop l nest a, st, r, h, hr => by
    have ih := run_deeper toks d d' hdd g
    have ex := run_ext toks d g
    rw [run] at h ⊢
    split at h
    · rename_i hn
      rw [if_pos hn]
      obtain ⟨b, h1, h⟩ := Option.bind_eq_some_iff.1 h
      have z : (nodeM 10 [a, (leafM toks st).1, b.1] b.2).2.fE = 0 := by
        split at h
        · injection h with h; subst h; exact hr
        · exact (ex _ _ _ h).zero hr
      rw [ih _ _ _ h1 ((nodeM_ext _ _ _).zero z), Option.bind_some]
      split at h
      · rename_i hc; rw [if_pos hc]; exact h
      · rename_i hc; rw [if_neg hc]; exact ih _ _ _ h hr
    · rename_i hn
      rw [if_neg hn]; exact h
  | g + 1, .neg nest, st, r, h, hr => by
    have ih := run_deeper toks d d' hdd g
    rw [run] at h ⊢
    split at h
    · rename_i hn
      rw [if_pos hn]
      have hd0 : (deepM toks d (nest + 1) (leafM toks st).2).fE = 0 := by
        apply Classical.byContradiction
        intro q
        rw [if_pos q] at h
        injection h with h; subst h
        exact q hr
      rw [if_neg (by simp [hd0])] at h
      obtain ⟨b, h2, h⟩ := Option.bind_eq_some_iff.1 h
      injection h with h; subst h
      rw [deep_eq hdd hd0, if_neg (by simp [hd0]), ih _ _ _ h2 ((nodeM_ext _ _ _).zero hr), Option.bind_some]
    · rename_i hn
      rw [if_neg hn]; exact ih _ _ _ h hr
  | g + 1, .factor nest, st, r, h, hr => by
    have ih := run_deeper toks d d' hdd g
    rw [run] at h ⊢
    split at h
    · rename_i hn
      rw [if_pos hn]
      have hd0 : (deepM toks d (nest + 1) (leafM toks st).2).fE = 0 := by
        apply Classical.byContradiction
        intro q
        rw [if_pos q] at h
        injection h with h; subst h
        exact q hr
      rw [if_neg (by simp [hd0])] at h
      obtain ⟨b, h2, h⟩ := Option.bind_eq_some_iff.1 h
      injection h with h; subst h
      rw [deep_eq hdd hd0, if_neg (by simp [hd0]), ih _ _ _ h2 ((nodeM_ext _ _ _).zero hr), Option.bind_some]
    · rename_i hn
      rw [if_neg hn]; exact ih _ _ _ h hr
  | g + 1, .atom nest, st, r, h, hr => by
    have ih := run_deeper toks d d' hdd g
    rw [run] at h ⊢
    split at h
    · rename_i hc; rw [if_pos hc]; exact h
    rename_i hc; rw [if_neg hc]
    split at h
    · rename_i hc; rw [if_pos hc]; exact h
    rename_i hc; rw [if_neg hc]
    split at h
    · rename_i hc; rw [if_pos hc]; exact h
    rename_i hc; rw [if_neg hc]
    split at h
    · rename_i hc; rw [if_pos hc]; exact h
    rename_i hc; rw [if_neg hc]
    split at h
    · rename_i hc; rw [if_pos hc]
      obtain ⟨b, h1, h⟩ := Option.bind_eq_some_iff.1 h
      injection h with h; subst h
      rw [ih _ _ _ h1 (((mustM_ext _ _ _).trans (nodeM_ext _ _ _)).zero hr), Option.bind_some]
    rename_i hc; rw [if_neg hc]
    split at h
    · rename_i hc; rw [if_pos hc]; exact ih _ _ _ h hr
    · rename_i hc; rw [if_neg hc]; exact h
  | g + 1, .name nest, st, r, h, hr => by
    have ih := run_deeper toks d d' hdd g
    have ex := run_ext toks d g
    rw [run] at h ⊢
    split at h
    · rename_i hc; rw [if_pos hc]; exact h
    · rename_i hc; rw [if_neg hc]
      obtain ⟨l, h1, h⟩ := Option.bind_eq_some_iff.1 h
      injection h with h; subst h
      rw [listM_deeper toks _ (fun s => run toks d' g (.expr (nest + 1)) s) (fun s k hk => ex _ _ _ hk) (fun s k hk hz => ih _ _ _ hk hz) _ _ h1 (((mustM_ext _ _ _).trans (nodeM_ext _ _ _)).zero hr), Option.bind_some]
theorem aloneM_deeper {toks : List Tok} {d d' g : Nat} {st : PSt} (hdd : d ≤ d') (h : aloneM toks d g = some st) (hs : st.fE = 0) : aloneM toks d' g = some st := by
  unfold aloneM at h ⊢
  obtain ⟨a, h1, h⟩ := Option.bind_eq_some_iff.1 h
  injection h with h; subst h
  rw [run_deeper toks d d' hdd g _ _ _ h1 (((kindM_ext _ _ _).trans (nodeM_ext _ _ _)).zero hs), Option.bind_some]
end Go.Proofs.YtemkhbmkaalgdaaGreatDoor

namespace Go.Proofs.YtemkhbmkaalgdaaGreatDoor
inductive PT where
  | leaf
  | node (k : Nat) (l : List PT)
mutual
def PT.lv : PT → Nat
  | .leaf => 1
  | .node _ l => lvL l
def lvL : List PT → Nat
  | [] => 0
  | t :: l => t.lv + lvL l
end
mutual
def PT.nd : PT → Nat
  | .leaf => 1
  | .node _ l => ndL l + 1
def ndL : List PT → Nat
  | [] => 0
  | t :: l => t.nd + ndL l
end
def idsL (b : Nat) : List PT → List Int
  | [] => []
  | t :: l => (((b + t.nd : Nat) : Int) - 1) :: idsL (b + t.nd) l
mutual
def PT.em (b u : Nat) : PT → List Nd
  | .leaf => [⟨19, (u : Nat), []⟩]
  | .node k l => emL b u l ++ [⟨k, -1, idsL b l⟩]
def emL (b u : Nat) : List PT → List Nd
  | [] => []
  | t :: l => t.em b u ++ emL (b + t.nd) (u + t.lv) l
end
theorem lvL_append : ∀ (l k : List PT), lvL (l ++ k) = lvL l + lvL k
  | [], k => by simp [lvL]
  | t :: l, k => by simp only [List.cons_append, lvL, lvL_append l k]; omega
theorem ndL_append : ∀ (l k : List PT), ndL (l ++ k) = ndL l + ndL k
  | [], k => by simp [ndL]
  | t :: l, k => by simp only [List.cons_append, ndL, ndL_append l k]; omega
theorem idsL_append : ∀ (b : Nat) (l k : List PT), idsL b (l ++ k) = idsL b l ++ idsL (b + ndL l) k
  | b, [], k => by simp [idsL, ndL]
  | b, t :: l, k => by simp only [List.cons_append, idsL, idsL_append _ l k, ndL]; rw [Nat.add_assoc]
theorem emL_append : ∀ (b u : Nat) (l k : List PT), emL b u (l ++ k) = emL b u l ++ emL (b + ndL l) (u + lvL l) k
  | b, u, [], k => by simp [emL, ndL, lvL]
  | b, u, t :: l, k => by simp only [List.cons_append, emL, emL_append _ _ l k, ndL, lvL, List.append_assoc]; rw [Nat.add_assoc, Nat.add_assoc]
mutual
theorem PT.em_len (b u : Nat) : ∀ (t : PT), (t.em b u).length = t.nd
  | .leaf => by simp [PT.em, PT.nd]
  | .node k l => by simp [PT.em, PT.nd, emL_len b u l]
theorem emL_len (b u : Nat) : ∀ (l : List PT), (emL b u l).length = ndL l
  | [] => by simp [emL, ndL]
  | t :: l => by rw [emL, ndL, List.length_append, PT.em_len b u t, emL_len _ _ l]
end
theorem PT.nd_pos (t : PT) : 0 < t.nd := by cases t <;> simp [PT.nd]
theorem idsL_range : ∀ (b : Nat) (l : List PT) (k : Int), k ∈ idsL b l → (b : Int) ≤ k ∧ k < ((b + ndL l : Nat) : Int)
  | _, [], k, h => by cases h
  | b, t :: l, k, h => by
    have hp := t.nd_pos
    rw [idsL, List.mem_cons] at h
    rw [ndL]
    rcases h with rfl | h
    · omega
    · have := idsL_range _ l k h
      omega
def Grew (st : PSt) (l : List PT) (st' : PSt) : Prop := st' = { st with nodes := st.nodes ++ emL st.nodes.length st.used l, used := st.used + lvL l }
theorem Grew.nil (st : PSt) : Grew st [] st := by simp [Grew, emL, lvL]
theorem Grew.append {a b c : PSt} {l k : List PT} (h : Grew a l b) (h2 : Grew b k c) : Grew a (l ++ k) c := by
  rw [Grew] at h h2 ⊢
  rw [h2, h]
  simp only [List.length_append, emL_len, emL_append, lvL_append, List.append_assoc, Nat.add_assoc]
theorem Grew.len {a b : PSt} {l : List PT} (h : Grew a l b) : b.nodes.length = a.nodes.length + ndL l := by rw [h]; simp [emL_len]
theorem Grew.used {a b : PSt} {l : List PT} (h : Grew a l b) : b.used = a.used + lvL l := by rw [h]
theorem Grew.clause {a b : PSt} {l : List PT} (h : Grew a l b) : b.clause = a.clause := by rw [h]
theorem Grew.fE {a b : PSt} {l : List PT} (h : Grew a l b) : b.fE = a.fE := by rw [h]
theorem Grew.leaf {toks : List Tok} {st : PSt} (h : st.used + 1 ≤ toks.length) : Grew st [.leaf] (leafM toks st).2 ∧ (leafM toks st).1 = ((st.nodes.length : Nat) : Int) := by
  unfold leafM
  rw [if_neg (by omega)]
  exact ⟨by simp [Grew, emL, PT.em, lvL, PT.lv], rfl⟩
theorem Grew.node {a b : PSt} {l : List PT} (h : Grew a l b) (hf : b.fE = 0) (k : Nat) : Grew a [.node k l] (nodeM k (idsL a.nodes.length l) b).2 ∧ (nodeM k (idsL a.nodes.length l) b).1 = ((a.nodes.length + ndL l : Nat) : Int) := by
  have hlen := h.len
  unfold nodeM
  rw [if_pos hf]
  unfold rawM
  rw [if_neg]
  · refine ⟨?_, by rw [hlen]⟩
    rw [Grew] at h ⊢
    rw [h]
    simp [emL, PT.em, lvL, PT.lv]
  · intro q
    obtain ⟨x, hx, hy⟩ := List.any_eq_true.1 q
    have := idsL_range _ _ _ hx
    simp only [Bool.or_eq_true, decide_eq_true_eq] at hy
    omega
inductive CE where
  | num | truth | res | nam
  | group (e : CE)
  | un (e : CE)
  | bin (a b : CE)
  | iff (a b c : CE)
  | lett (a b : CE)
  | asrt (a b : CE)
  | call (q : Bool) (l : List CE)
mutual
def CE.pt : CE → PT
  | .num => .node 15 [.leaf]
  | .truth => .node 16 [.leaf]
  | .res => .node 17 [.leaf]
  | .nam => .node 14 [.leaf]
  | .group e => .node 12 [.leaf, e.pt, .leaf]
  | .un e => .node 11 [.leaf, e.pt]
  | .bin a b => .node 10 [a.pt, .leaf, b.pt]
  | .iff a b c => .node 8 [.leaf, a.pt, .leaf, b.pt, .leaf, c.pt]
  | .lett a b => .node 7 [.leaf, .leaf, .leaf, a.pt, .leaf, b.pt]
  | .asrt a b => .node 9 [.leaf, a.pt, .leaf, b.pt]
  | .call q l => .node 13 ((if q then [.leaf, .leaf, .leaf] else [.leaf]) ++ [.leaf] ++ argsPT l ++ [.leaf])
def argsPT : List CE → List PT
  | [] => []
  | e :: l => e.pt :: (match l with | [] => [] | _ :: _ => .leaf :: argsPT l)
end
theorem argsPT_one (e : CE) : argsPT [e] = [e.pt] := by simp [argsPT]
theorem argsPT_two (e f : CE) (l : List CE) : argsPT (e :: f :: l) = e.pt :: .leaf :: argsPT (f :: l) := by
  conv => lhs; rw [argsPT]
def textAt (toks : List Tok) (u : Nat) : List UInt8 := (peekF toks u).text
def kindAt (toks : List Tok) (u : Nat) : Nat := (peekF toks u).kind
def binL : List (List UInt8) := [[43], [45], [42], [47], [37], [61], [60, 62], [60], [60, 61], [62], [62, 61], [38, 38], [124, 124], [61, 62]]
mutual
def CE.ok (toks : List Tok) (cl : Bool) (u : Nat) : CE → Prop
  | .num => kindAt toks u = 3
  | .truth => textAt toks u = tTrue ∨ textAt toks u = tFalse
  | .res => cl = true ∧ textAt toks u = tRes
  | .nam => kindAt toks u = 1
  | .group e => textAt toks u = [40] ∧ e.ok toks cl (u + 1)
  | .un e => (textAt toks u = tNot ∨ textAt toks u = [45]) ∧ e.ok toks cl (u + 1)
  | .bin a b => textAt toks (u + a.pt.lv) ∈ binL ∧ a.ok toks cl u ∧ b.ok toks cl (u + a.pt.lv + 1)
  | .iff a b c => cl = false ∧ a.ok toks cl (u + 1) ∧ b.ok toks cl (u + 1 + a.pt.lv + 1) ∧ c.ok toks cl (u + 1 + a.pt.lv + 1 + b.pt.lv + 1)
  | .lett a b => cl = false ∧ kindAt toks (u + 1) = 1 ∧ a.ok toks cl (u + 3) ∧ b.ok toks cl (u + 3 + a.pt.lv + 1)
  | .asrt a b => cl = false ∧ a.ok toks cl (u + 1) ∧ b.ok toks cl (u + 1 + a.pt.lv + 1)
  | .call q l => cl = false ∧ kindAt toks u = 1 ∧ l.length ≤ 8 ∧ (if q then textAt toks (u + 1) = [46] ∧ kindAt toks (u + 2) = 1 ∧ argsOk toks cl (u + 4) l else textAt toks (u + 1) = [40] ∧ argsOk toks cl (u + 2) l)
def argsOk (toks : List Tok) (cl : Bool) (u : Nat) : List CE → Prop
  | [] => True
  | e :: l => e.ok toks cl u ∧ argsOk toks cl (u + e.pt.lv + 1) l
end
def Res (toks : List Tok) (st : PSt) (r : Int × PSt) (e : CE) : Prop :=
  Grew st [e.pt] r.2 ∧ r.1 = ((st.nodes.length + e.pt.nd : Nat) : Int) - 1 ∧ e.ok toks st.clause st.used ∧ (st.used < toks.length → r.2.used < toks.length)
end Go.Proofs.YtemkhbmkaalgdaaGreatDoor
