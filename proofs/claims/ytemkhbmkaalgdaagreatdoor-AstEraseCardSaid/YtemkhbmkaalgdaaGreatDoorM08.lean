/- The walks of the code that the claim reaches, and the plain laws: OfL, ProgItems, Recs, TreeW1, ExprMem. No condition of ours. -/
import Derived.Test.YtemkhbmkaalgdaaGreatDoorM07
import Derived.Test.YtemkhbmkaalgdaaGreatDoorM01
import Derived.Test.YtemkhbmkaalgdaaGreatDoorM05
import Derived.Deep.RegionLaw
import Derived.Test.YtemkhbmkaalgdaaGreatDoorProg
namespace Go.Proofs.YtemkhbmkaalgdaaGreatDoor
theorem repL_at {nodes : List Nd} : ∀ (l : List PT) (ks : List Int) (u : Nat), RepL nodes ks u l → ks.length = l.length ∧ ∀ j, (h1 : j < ks.length) → (h2 : j < l.length) → Rep nodes ks[j] (u + lvL (l.take j)) l[j]
  | [], ks, u, h => by
    rw [RepL] at h
    subst h
    exact ⟨rfl, fun j h1 => absurd h1 (by simp)⟩
  | i :: l, ks, u, h => by
    rw [RepL] at h
    obtain ⟨k, ks', rfl, h1, h2⟩ := h
    obtain ⟨h3, h4⟩ := repL_at l ks' _ h2
    refine ⟨by simp [h3], fun j q1 q2 => ?_⟩
    cases j with
    | zero => simpa [lvL] using h1
    | succ j =>
      have := h4 j (by simpa using q1) (by simpa using q2)
      rw [List.take_succ_cons, lvL, ← Nat.add_assoc]
      exact this
theorem lvL_take : ∀ (l : List PT) (j : Nat) (h : j < l.length), lvL (l.take j) + l[j].lv ≤ lvL l
  | [], j, h => absurd h (by simp)
  | i :: l, 0, h => by simp [lvL]
  | i :: l, j + 1, h => by
    have := lvL_take l j (by simpa using h)
    rw [List.take_succ_cons, lvL, lvL]
    simp only [List.getElem_cons_succ]
    omega
theorem impsPP_get (toks : List Tok) : ∀ (n u j : Nat) (h : j < (impsPP toks u n).length), (impsPP toks u n)[j] = (textAt toks (u + 3 * j + 1), placeAt toks (u + 3 * j + 1))
  | 0, u, j, h => absurd h (by simp [impsPP])
  | n + 1, u, 0, h => rfl
  | n + 1, u, j + 1, h => by
    have := impsPP_get toks n (u + 3) j (by simpa [impsPP] using h)
    simp only [impsPP, List.getElem_cons_succ, this]
    rw [show u + 3 + 3 * j + 1 = u + 3 * (j + 1) + 1 by omega]
theorem defsDD_get (toks : List Tok) : ∀ (l : List DfS) (u j : Nat) (h : j < l.length) (h2 : j < (defsDD toks u l).length), (defsDD toks u l)[j] = l[j].dd toks (u + lvL ((l.take j).map DfS.pt))
  | [], u, j, h, _ => absurd h (by simp)
  | d :: l, u, 0, h, _ => by simp [defsDD, lvL]
  | d :: l, u, j + 1, h, h2 => by
    have := defsDD_get toks l (u + d.pt.lv) j (by simpa using h) (by simpa [defsDD] using h2)
    simp only [defsDD, List.getElem_cons_succ, this, List.take_succ_cons, List.map_cons, lvL, Nat.add_assoc]
theorem defsOk_get {toks : List Tok} : ∀ (l : List DfS) (u j : Nat) (h : j < l.length), defsOk toks u l → l[j].ok toks (u + lvL ((l.take j).map DfS.pt))
  | [], u, j, h, _ => absurd h (by simp)
  | d :: l, u, 0, h, ho => by simpa [lvL] using ho.1
  | d :: l, u, j + 1, h, ho => by
    have := defsOk_get l (u + d.pt.lv) j (by simpa using h) ho.2
    simpa [lvL, Nat.add_assoc] using this
theorem PgS.kid_imp (p : PgS) (j : Nat) (h : j < p.imps) : ∃ h2 : j < p.kids.length, p.kids[j] = impPT ∧ lvL (p.kids.take j) = 3 * j := by
  have h2 : j < p.kids.length := by simp only [PgS.kids, List.length_append, List.length_replicate]; omega
  refine ⟨h2, ?_, ?_⟩
  · simp only [PgS.kids]
    rw [List.getElem_append_left (by simpa using h), List.getElem_replicate]
  · simp only [PgS.kids]
    rw [List.take_append_of_le_length (by simp; omega), List.take_replicate, imps_lv, Nat.min_eq_left (by omega)]
theorem PgS.kid_def (p : PgS) (j : Nat) (h : j < p.defs.length) : ∃ h2 : p.imps + j < p.kids.length, p.kids[p.imps + j] = p.defs[j].pt ∧ lvL (p.kids.take (p.imps + j)) = 3 * p.imps + lvL ((p.defs.take j).map DfS.pt) := by
  have h2 : p.imps + j < p.kids.length := by simp only [PgS.kids, List.length_append, List.length_replicate, List.length_map]; omega
  refine ⟨h2, ?_, ?_⟩
  · simp only [PgS.kids]
    rw [List.getElem_append_right (by simp), List.getElem_append_left (by simp; omega)]
    simp
  · simp only [PgS.kids]
    rw [List.take_append, List.take_of_length_le (by simp), lvL_append, imps_lv, List.length_replicate, Nat.add_sub_cancel_left, List.take_append_of_le_length (by simp; omega), List.map_take]
theorem PgS.kid_end (p : PgS) : ∃ h2 : p.imps + p.defs.length < p.kids.length, p.kids[p.imps + p.defs.length] = .leaf := by
  have h2 : p.imps + p.defs.length < p.kids.length := by simp only [PgS.kids, List.length_append, List.length_replicate, List.length_map, List.length_singleton]; omega
  refine ⟨h2, ?_⟩
  simp only [PgS.kids]
  rw [List.getElem_append_right (by simp), List.getElem_append_right (by simp)]
  simp
theorem PgS.kids_len (p : PgS) : p.kids.length = p.imps + p.defs.length + 1 := by
  simp only [PgS.kids, List.length_append, List.length_replicate, List.length_map, List.length_singleton]
  omega
end Go.Proofs.YtemkhbmkaalgdaaGreatDoor

namespace Go.Proofs.YtemkhbmkaalgdaaGreatDoor
inductive It where
  | leaf
  | expr (e : CE)
  | par (t : TyS)
  | base
  | cl (e : CE)
def It.pt : It → PT
  | .leaf => .leaf
  | .expr e => e.pt
  | .par t => t.par
  | .base => .node 5 [.leaf]
  | .cl e => .node 6 [.leaf, e.pt, .leaf]
structure TyA where
  base : Nat
  clause : List PE
  bare : Int
def It.step (toks : List Tok) (u : Nat) : It → TyA → TyA
  | .base, a => ⟨if textAt toks u = tBool then 2 else 1, a.clause, ((placeAt toks u + (textAt toks u).length : Nat) : Int)⟩
  | .cl e, a => ⟨a.base, [e.pe toks (u + 1)], -1⟩
  | _, a => a
def typA (toks : List Tok) : Nat → List It → TyA → TyA
  | _, [], a => a
  | u, i :: l, a => typA toks (u + i.pt.lv) l (i.step toks u a)
theorem typA_append (toks : List Tok) : ∀ (l k : List It) (u : Nat) (a : TyA), typA toks u (l ++ k) a = typA toks (u + lvL (l.map It.pt)) k (typA toks u l a)
  | [], k, u, a => by simp [typA, lvL]
  | i :: l, k, u, a => by
    rw [List.cons_append, typA, typA_append toks l k, typA, List.map_cons, lvL, Nat.add_assoc]
def parA (toks : List Tok) : Nat → List It → List FF
  | _, [] => []
  | u, .par t :: l => t.parFF toks u :: parA toks (u + (It.par t).pt.lv) l
  | u, i :: l => parA toks (u + i.pt.lv) l
theorem parA_append (toks : List Tok) : ∀ (l k : List It) (u : Nat), parA toks u (l ++ k) = parA toks u l ++ parA toks (u + lvL (l.map It.pt)) k
  | [], k, u => by simp [parA, lvL]
  | .par t :: l, k, u => by
    rw [List.cons_append, parA, parA_append toks l k, parA, List.map_cons, lvL, Nat.add_assoc, List.cons_append]
  | .leaf :: l, k, u => by
    rw [List.cons_append, parA, parA_append toks l k, parA, List.map_cons, lvL, Nat.add_assoc] <;> simp
  | .base :: l, k, u => by
    rw [List.cons_append, parA, parA_append toks l k, parA, List.map_cons, lvL, Nat.add_assoc] <;> simp
  | .expr e :: l, k, u => by
    rw [List.cons_append, parA, parA_append toks l k, parA, List.map_cons, lvL, Nat.add_assoc] <;> simp
  | .cl e :: l, k, u => by
    rw [List.cons_append, parA, parA_append toks l k, parA, List.map_cons, lvL, Nat.add_assoc] <;> simp
def TyS.its (t : TyS) : List It := [.leaf, .base] ++ (match t.cl with | none => [] | some e => [.cl e])
theorem TyS.its_pt (t : TyS) : t.its.map It.pt = t.pts := by
  unfold TyS.its TyS.pts
  cases t.cl <;> rfl
def TyS.parIts (t : TyS) : List It := .leaf :: t.its
theorem TyS.parIts_pt (t : TyS) : t.par = .node 4 (t.parIts.map It.pt) := by
  rw [TyS.par, TyS.parIts, List.map_cons, t.its_pt]
  rfl
def sepIts : List TyS → List It
  | [] => []
  | t :: l => .par t :: (match l with | [] => [] | _ :: _ => .leaf :: sepIts l)
theorem sepIts_pt : ∀ l : List TyS, (sepIts l).map It.pt = sepPT (l.map TyS.par)
  | [] => rfl
  | [t] => rfl
  | t :: s :: l => by
    have := sepIts_pt (s :: l)
    rw [show sepIts (t :: s :: l) = .par t :: .leaf :: sepIts (s :: l) from by rw [sepIts], List.map_cons, List.map_cons, this]
    show _ = sepPT (t.par :: s.par :: l.map TyS.par)
    rw [sepPT_two]
    rfl
def DfS.leadIts (d : DfS) : List It := if d.pub = true then [.leaf] else []
def DfS.its (d : DfS) : List It := d.leadIts ++ ([.leaf, .leaf, .leaf] ++ (sepIts d.pars ++ ([.leaf] ++ (d.ty.its ++ [.leaf, .expr d.body, .leaf]))))
theorem DfS.its_pt (d : DfS) : d.pt = .node 3 (d.its.map It.pt) := by
  have h : d.leadIts.map It.pt = d.lead := by unfold DfS.leadIts DfS.lead; split <;> rfl
  rw [DfS.pt, DfS.kids, DfS.its]
  simp only [List.map_append, h, sepIts_pt, d.ty.its_pt, List.map_cons, List.map_nil, It.pt]
theorem typA_none (toks : List Tok) : ∀ (l : List It) (u : Nat) (a : TyA), (∀ i ∈ l, (i matches .leaf) ∨ (i matches .par _) ∨ (i matches .expr _)) → typA toks u l a = a
  | [], u, a, _ => rfl
  | i :: l, u, a, h => by
    rw [typA, typA_none toks l _ _ fun x hx => h x (List.mem_cons_of_mem _ hx)]
    have := h i List.mem_cons_self
    cases i <;> simp_all [It.step]
theorem typA_its (toks : List Tok) (t : TyS) (u : Nat) (name : List UInt8) (at_ : Nat) {b0 : Nat} {y0 : Int} : typA toks u t.its ⟨b0, [], y0⟩ = ⟨(t.ff toks u name at_).base, (t.ff toks u name at_).clause, (t.ff toks u name at_).bare⟩ := by
  unfold TyS.its TyS.ff
  cases t.cl with
  | none => simp [typA, It.step, It.pt, PT.lv]
  | some e => simp [typA, It.step, It.pt, PT.lv, lvL]
theorem sep_none : ∀ l : List TyS, ∀ i ∈ sepIts l, (i matches .leaf) ∨ (i matches .par _) ∨ (i matches .expr _)
  | [], i, h => by rw [sepIts] at h; cases h
  | [t], i, h => by
    rw [sepIts, List.mem_singleton] at h
    subst h
    exact .inr (.inl rfl)
  | t :: s :: l, i, h => by
    rw [show sepIts (t :: s :: l) = .par t :: .leaf :: sepIts (s :: l) from by rw [sepIts], List.mem_cons, List.mem_cons] at h
    rcases h with rfl | rfl | h
    · exact .inr (.inl rfl)
    · exact .inl rfl
    · exact sep_none (s :: l) i h
theorem TyS.par_typ (toks : List Tok) (t : TyS) (u : Nat) {b0 : Nat} {y0 : Int} : typA toks u t.parIts ⟨b0, [], y0⟩ = ⟨(t.parFF toks u).base, (t.parFF toks u).clause, (t.parFF toks u).bare⟩ := by
  rw [TyS.parIts, typA, TyS.parFF]
  exact typA_its toks t (u + 1) _ _
theorem DfS.typ (toks : List Tok) (d : DfS) (u : Nat) {b0 : Nat} {y0 : Int} : typA toks u d.its ⟨b0, [], y0⟩ = ⟨(d.dd toks u).res.base, (d.dd toks u).res.clause, (d.dd toks u).res.bare⟩ := by
  have h1 : ∀ i ∈ d.leadIts, (i matches .leaf) ∨ (i matches .par _) ∨ (i matches .expr _) := fun i h => by
    unfold DfS.leadIts at h
    split at h
    · rw [List.mem_singleton] at h; subst h; exact .inl rfl
    · cases h
  have h2 : ∀ i ∈ [It.leaf, .leaf, .leaf], (i matches .leaf) ∨ (i matches .par _) ∨ (i matches .expr _) := fun i h => by
    simp only [List.mem_cons, List.not_mem_nil, or_false, or_self] at h; subst h; exact .inl rfl
  have h3 : ∀ i ∈ [It.leaf, .expr d.body, .leaf], (i matches .leaf) ∨ (i matches .par _) ∨ (i matches .expr _) := fun i h => by
    simp only [List.mem_cons, List.not_mem_nil, or_false] at h
    rcases h with rfl | rfl | rfl
    · exact .inl rfl
    · exact .inr (.inr rfl)
    · exact .inl rfl
  have h4 : ∀ i ∈ [It.leaf], (i matches .leaf) ∨ (i matches .par _) ∨ (i matches .expr _) := fun i h => by
    rw [List.mem_singleton] at h; subst h; exact .inl rfl
  have hl : lvL (d.leadIts.map It.pt) = lvL d.lead := by unfold DfS.leadIts DfS.lead; split <;> rfl
  rw [DfS.its, typA_append, typA_none toks _ _ _ h1, typA_append, typA_none toks _ _ _ h2, typA_append, typA_none toks _ _ _ (sep_none _), typA_append, typA_none toks _ _ _ h4, typA_append, typA_none toks _ _ _ h3]
  rw [show u + lvL (d.leadIts.map It.pt) + lvL ([It.leaf, .leaf, .leaf].map It.pt) + lvL ((sepIts d.pars).map It.pt) + lvL ([It.leaf].map It.pt) = d.at2 u by
    rw [hl, sepIts_pt]
    simp only [DfS.at2, DfS.at1, List.map_cons, List.map_nil, It.pt, lvL, PT.lv]]
  exact typA_its toks d.ty _ _ _
theorem parA_none (toks : List Tok) : ∀ (l : List It) (u : Nat), (∀ i ∈ l, ¬ (i matches .par _)) → parA toks u l = []
  | [], u, _ => rfl
  | i :: l, u, h => by
    have h1 := h i List.mem_cons_self
    have h2 := parA_none toks l (u + i.pt.lv) fun x hx => h x (List.mem_cons_of_mem _ hx)
    cases i with
    | par t => simp at h1
    | leaf => rw [parA]; exact h2; simp
    | base => rw [parA]; exact h2; simp
    | expr e => rw [parA]; exact h2; simp
    | cl e => rw [parA]; exact h2; simp
theorem parA_sep (toks : List Tok) : ∀ (l : List TyS) (u : Nat), parA toks u (sepIts l) = parsFF toks u l
  | [], u => rfl
  | [t], u => by rw [sepIts, parA, parA, parsFF, parsFF]
  | t :: s :: l, u => by
    rw [show sepIts (t :: s :: l) = .par t :: .leaf :: sepIts (s :: l) from by rw [sepIts], parA, parA, parA_sep toks (s :: l), parsFF]
    · rfl
    · simp
theorem DfS.pars_par (toks : List Tok) (d : DfS) (u : Nat) : parA toks u d.its = (d.dd toks u).params := by
  have h1 : ∀ i ∈ d.leadIts, ¬ (i matches .par _) := fun i h => by
    unfold DfS.leadIts at h
    split at h
    · rw [List.mem_singleton] at h; subst h; simp
    · cases h
  have h2 : ∀ i ∈ [It.leaf, .leaf, .leaf], ¬ (i matches .par _) := fun i h => by
    simp only [List.mem_cons, List.not_mem_nil, or_false, or_self] at h; subst h; simp
  have h3 : ∀ i ∈ ([It.leaf] ++ (d.ty.its ++ [.leaf, .expr d.body, .leaf])), ¬ (i matches .par _) := fun i h => by
    unfold TyS.its at h
    cases hc : d.ty.cl with
    | none =>
      rw [hc] at h
      simp only [List.mem_append, List.mem_cons, List.not_mem_nil, or_false] at h
      rcases h with rfl | (rfl | rfl) | rfl | rfl | rfl <;> simp
    | some e =>
      rw [hc] at h
      simp only [List.mem_append, List.mem_cons, List.not_mem_nil, or_false] at h
      rcases h with rfl | ((rfl | rfl) | rfl) | rfl | rfl | rfl <;> simp
  have hl : lvL (d.leadIts.map It.pt) = lvL d.lead := by unfold DfS.leadIts DfS.lead; split <;> rfl
  rw [DfS.its, parA_append, parA_none toks _ _ h1, parA_append, parA_none toks _ _ h2, parA_append, parA_none toks _ _ h3, parA_sep, List.nil_append, List.nil_append, List.append_nil, hl]
  simp only [List.map_cons, List.map_nil, It.pt, lvL, PT.lv]
  rfl
end Go.Proofs.YtemkhbmkaalgdaaGreatDoor

namespace Go.Proofs.YtemkhbmkaalgdaaGreatDoor
open Go.RowKit
theorem Rec.formN {α : Type} {B : Nat} {w : World} {v : Value} {sz n : Nat} {f : α → List Value} {l : List α} (h : Rec B w v sz f l) (hf : ∀ x, (f x).length = sz) (hn : l.length = n) :
    ∃ ao cap, v = .slice ao n cap ∧ n ≤ cap ∧ (0 < n → ∃ b off, ao = some ⟨b, off, none⟩ ∧ b < B ∧
      ∀ k j u, (hk : k < l.length) → (f l[k])[j]? = some u → w.cell? ⟨b, off + k * sz + j, none⟩ = some u) := by
  subst hn
  exact h.form hf
theorem Rec.cells {α : Type} {B : Nat} {w : World} {ao : Option Addr} {n cap sz : Nat} {f : α → List Value} {l : List α} (h : Rec B w (.slice ao n cap) sz f l) (hf : ∀ x, (f x).length = sz) (h0 : 0 < l.length) :
    ∃ b off, ao = some ⟨b, off, none⟩ ∧ b < B ∧ ∀ k j u, (hk : k < l.length) → (f l[k])[j]? = some u → w.cell? ⟨b, off + k * sz + j, none⟩ = some u := by
  obtain ⟨ao', cap', hv, _, hc⟩ := h.form hf
  injection hv with q1 q2 q3
  subst q1
  exact hc h0
end Go.Proofs.YtemkhbmkaalgdaaGreatDoor

namespace Go.Proofs.YtemkhbmkaalgdaaGreatDoor
open Go.RowKit
def nodeCells (p : Nd × Value) : List Value := [.int .i64 p.1.kind, .int .i64 p.1.tok, p.2]
def Ints (B : Nat) (w : World) (v : Value) (ks : List Int) : Prop := Sl B w v 1 ks.length (ks.map (Value.int .i64))
def TreeAt (B : Nat) (w : World) (v : Value) (toks : List Tok) (nodes : List Nd) : Prop :=
  ∃ (tv nv : Value) (l : List (Nd × Value)), v = .agg #[tv, nv] ∧ Rec B w tv 4 tokCells toks ∧ l.map Prod.fst = nodes ∧ Rec B w nv 3 nodeCells l ∧ ∀ p ∈ l, Ints B w p.2 p.1.kids
theorem Ints.below {B : Nat} {w w' : World} {v : Value} {ks : List Int} (h : Ints B w v ks) (hb : Below B w w') : Ints B w' v ks := Sl.below h hb
theorem Ints.mono {B B' : Nat} {w : World} {v : Value} {ks : List Int} (h : Ints B w v ks) (hB : B ≤ B') : Ints B' w v ks := Sl.mono h hB
theorem TreeAt.below {B : Nat} {w w' : World} {v : Value} {toks : List Tok} {nodes : List Nd} (h : TreeAt B w v toks nodes) (hb : Below B w w') : TreeAt B w' v toks nodes := by
  obtain ⟨tv, nv, l, h1, h2, h3, h4, h5⟩ := h
  exact ⟨tv, nv, l, h1, h2.below hb, h3, h4.below hb, fun p hp => (h5 p hp).below hb⟩
theorem TreeAt.mono {B B' : Nat} {w : World} {v : Value} {toks : List Tok} {nodes : List Nd} (h : TreeAt B w v toks nodes) (hB : B ≤ B') : TreeAt B' w v toks nodes := by
  obtain ⟨tv, nv, l, h1, h2, h3, h4, h5⟩ := h
  exact ⟨tv, nv, l, h1, h2.mono hB, h3, h4.mono hB, fun p hp => (h5 p hp).mono hB⟩
theorem Ints.form {B : Nat} {w : World} {v : Value} {ks : List Int} (h : Ints B w v ks) : ∃ ao cap, v = .slice ao ks.length cap ∧ ks.length ≤ cap ∧
    (0 < ks.length → ∃ b off, ao = some ⟨b, off, none⟩ ∧ b < B ∧ ∀ j, (hj : j < ks.length) → w.cell? ⟨b, off + j, none⟩ = some (.int .i64 ks[j])) := by
  obtain ⟨ao, cap, hv, hn, hl, hc⟩ := h
  refine ⟨ao, cap, hv, hn, fun h0 => ?_⟩
  obtain ⟨b, off, ha, hB, hcell⟩ := hc h0
  exact ⟨b, off, ha, hB, fun j hj => by rw [hcell j (by simpa using hj)]; simp⟩
theorem TreeAt.node {B : Nat} {w : World} {tv nv : Value} {toks : List Tok} {nodes : List Nd} (h : TreeAt B w (.agg #[tv, nv]) toks nodes) {i : Nat} (hi : i < nodes.length) :
    ∃ b off cap kv, nv = .slice (some ⟨b, off, none⟩) nodes.length cap ∧ b < B ∧ w.cell? ⟨b, off + i * 3, none⟩ = some (.int .i64 nodes[i].kind) ∧ w.cell? ⟨b, off + i * 3 + 1, none⟩ = some (.int .i64 nodes[i].tok) ∧ w.cell? ⟨b, off + i * 3 + 2, none⟩ = some kv ∧ Ints B w kv nodes[i].kids := by
  obtain ⟨tv', nv', l, h1, h2, h3, h4, h5⟩ := h
  simp only [Value.agg.injEq] at h1
  obtain ⟨rfl, rfl⟩ : tv = tv' ∧ nv = nv' := by simpa using h1
  subst h3
  rw [List.length_map] at hi ⊢
  obtain ⟨ao, cap, rfl, _, hf⟩ := h4.form (fun _ => rfl)
  obtain ⟨b, off, rfl, hb, hc⟩ := hf (by omega)
  refine ⟨b, off, cap, l[i].2, rfl, hb, ?_, ?_, ?_, ?_⟩
  · rw [show off + i * 3 = off + i * 3 + 0 by rfl, hc i 0 (.int .i64 l[i].1.kind) hi rfl]; simp
  · rw [hc i 1 (.int .i64 l[i].1.tok) hi rfl]; simp
  · rw [hc i 2 l[i].2 hi rfl]
  · rw [List.getElem_map]; exact h5 _ (List.getElem_mem hi)
theorem TreeAt.slices {B : Nat} {w : World} {v : Value} {toks : List Tok} {nodes : List Nd} (h : TreeAt B w v toks nodes) :
    ∃ at_ ct an cn, v = .agg #[.slice at_ toks.length ct, .slice an nodes.length cn] := by
  obtain ⟨tv, nv, l, h1, h2, h3, h4, h5⟩ := h
  obtain ⟨a1, c1, rfl, _, _⟩ := h2.form (fun _ => rfl)
  obtain ⟨a2, c2, rfl, _, _⟩ := h4.form (fun _ => rfl)
  subst h3
  rw [List.length_map]
  exact ⟨a1, c1, a2, c2, h1⟩
set_option maxHeartbeats 1000000 in
set_option maxRecDepth 100000 in
theorem formedTest_any (i g : Nat) (k : Int) (w : World) (hg : w.cell? ⟨g, 0, none⟩ = some (.int .i64 i)) :
    Calls Tryz.prog 124 #[.int .i64 k, .pointer (some ⟨g, 0, none⟩)] w fun e w' => e = .returned (.bool (decide (k < 0) || decide ((i : Int) ≤ k))) ∧ w' = w := by
  by_cases hk : k < 0
  · have d1 : decide (k < 0) = true := decide_eq_true hk
    go_enter Tryz.func124, Tryz.ntmps124
    go_wp2
    all_goals (go_ret; refine ⟨ret_bool ?_, rfl⟩; simp [*])
  · have d1 : decide (k < 0) = false := decide_eq_false hk
    go_enter Tryz.func124, Tryz.ntmps124
    go_wp2
    all_goals (go_ret; refine ⟨ret_bool ?_, rfl⟩; simp [*])
def badI (i : Nat) (k : Int) : Bool := decide (k < 0) || decide ((i : Int) ≤ k)
def IdxP (p : Bool) (w : World) (e : Ending) (w' : World) : Prop := (∃ r : Int, e = .returned (.int .i64 r) ∧ (0 ≤ r ↔ p = true) ∧ -1 ≤ r) ∧ w' = w
set_option maxHeartbeats 1000000 in
set_option maxRecDepth 100000 in
theorem formedIndex_any (i g B : Nat) (v : Value) (ks : List Int) (w : World) (hg : w.cell? ⟨g, 0, none⟩ = some (.int .i64 i)) (hv : Ints B w v ks) (hn : ks.length ≤ 1099511627776) :
    Calls Tryz.prog 140 #[v, .func (.func 124) #[] #[.pointer (some ⟨g, 0, none⟩)]] w (IdxP (ks.any (badI i)) w) := by
  obtain ⟨ao, cap, rfl, _, hf⟩ := hv.form
  have HT := Lib.hid (fun k => formedTest_any i g k w hg)
  have HF := Lib.hid hf
  clear hf hv hg
  go_enter Tryz.func140, Tryz.ntmps140
  go_wp2
  go_loop [8] (fun q => ∃ k : Nat, k ≤ ks.length ∧ q = .int .i64 k ∧ ∀ j, (hj : j < ks.length) → j < k → badI i ks[j] = false) (fun q => ks.length - (intOf q).toNat)
  case atStart => exact ⟨0, Nat.zero_le _, rfl, fun j _ h => absurd h (by omega)⟩
  case round =>
    obtain ⟨k, hk, rfl, hj⟩ := hrel
    by_cases hlt : k < ks.length
    · obtain ⟨b, off, rfl, _, hc⟩ := HF.out (by omega)
      have hx := hc k hlt
      have hI : (k : Int) < (ks.length : Int) := by omega
      have hT := HT.out ks[k]
      cases ht : badI i ks[k] with
      | true =>
        have hany : ks.any (badI i) = true := List.any_eq_true.2 ⟨_, List.getElem_mem hlt, ht⟩
        unfold badI at ht
        rw [ht] at hT
        generalize ks[k] = x at hx hT
        have H1 := Lib.hid hT
        have H2 := Lib.hid hany
        clear hc hj ht hT hany
        go_wp2_with (go_at_call 124; refine H1.out.mono ?_; rintro e w1 ⟨rfl, rfl⟩)
        go_ret
        exact ⟨⟨k, rfl, ⟨fun _ => H2.out, fun _ => by omega⟩, by omega⟩, rfl⟩
      | false =>
        have HJ : Hid (∀ j, (hj : j < ks.length) → j < k + 1 → badI i ks[j] = false) := Lib.hid (fun j hjl hjk => by
          by_cases hkj : j = k
          · subst hkj; exact ht
          · exact hj j hjl (by omega))
        unfold badI at ht
        rw [ht] at hT
        generalize ks[k] = x at hx hT
        have H1 := Lib.hid hT
        clear hc hj ht hT
        go_wp2_with (go_at_call 124; refine H1.out.mono ?_; rintro e w1 ⟨rfl, rfl⟩)
        go_round
        case rel => exact ⟨k + 1, by omega, by go_num, HJ.out⟩
        case measure => simp [intOf]; omega
    · have hany : ks.any (badI i) = false := by
        rw [← Bool.not_eq_true, List.any_eq_true]
        rintro ⟨x, hx, hb⟩
        obtain ⟨j, hjl, e⟩ := List.mem_iff_getElem.1 hx
        rw [← e, hj j hjl (by omega)] at hb
        cases hb
      have hI : decide ((k : Int) < (ks.length : Int)) = false := decide_eq_false (by omega)
      have H2 := Lib.hid hany
      clear hany hj
      go_wp2
      go_ret
      exact ⟨⟨-1, rfl, ⟨fun h => by omega, fun h => by rw [H2.out] at h; cases h⟩, by omega⟩, rfl⟩
set_option maxHeartbeats 1000000 in
set_option maxRecDepth 100000 in
theorem formedContains_any (i g B : Nat) (v : Value) (ks : List Int) (w : World) (hg : w.cell? ⟨g, 0, none⟩ = some (.int .i64 i)) (hv : Ints B w v ks) (hn : ks.length ≤ 1099511627776) :
    Calls Tryz.prog 122 #[v, .func (.func 124) #[] #[.pointer (some ⟨g, 0, none⟩)]] w fun e w' => e = .returned (.bool (ks.any (badI i))) ∧ w' = w := by
  have H := Lib.hid (formedIndex_any i g B v ks w hg hv hn)
  clear hg hv
  go_enter Tryz.func122, Tryz.ntmps122
  go_wp2_with (go_at_call 140; refine H.out.mono ?_)
  rintro e w1 ⟨⟨r, rfl, hr, _⟩, rfl⟩
  have hq : (ks.any (badI i)) = decide (0 ≤ r) := by
    by_cases h : 0 ≤ r
    · rw [decide_eq_true h]; exact hr.1 h
    · rw [decide_eq_false h, ← Bool.not_eq_true]; exact fun q => h (hr.2 q)
  have HQ := Lib.hid hq
  clear hq hr
  go_wp2
  go_ret
  exact ⟨ret_bool HQ.out.symm, rfl⟩
set_option maxHeartbeats 4000000 in
set_option maxRecDepth 100000 in
theorem formed_any (at_ an : Option Addr) (nt ct nn cn i B : Nat) (n : Nd) (kv : Value) (w : World) (hk : Ints B w kv n.kids) (hB : B ≤ w.heap.size) (hn : n.kids.length ≤ 1099511627776) :
    Calls Tryz.prog 91 #[.agg #[.slice at_ nt ct, .slice an nn cn], .int .i64 i, .agg #[.int .i64 n.kind, .int .i64 n.tok, kv]] w fun e w' => e = .returned (.bool (formedB nt i n)) ∧ Below w.heap.size w w' := by
  obtain ⟨kind, tok, ks⟩ := n
  simp only at hk hn ⊢
  obtain ⟨ak, ck, rfl, _, _⟩ := hk.form
  by_cases h1 : kind < 1
  · have hq : formedB nt i ⟨kind, tok, ks⟩ = false := by simp [formedB, h1]
    rw [hq]
    clear hq
    have d1 : decide (kind < 1) = true := decide_eq_true h1
    go_enter Tryz.func91, Tryz.ntmps91
    go_wp2
    go_ret
    exact ⟨rfl, (((Below.refl _ _).alloc (Nat.le_refl _) _).alloc (by simp) _).alloc (by simp; omega) _⟩
  by_cases h2 : 19 < kind
  · have hq : formedB nt i ⟨kind, tok, ks⟩ = false := by simp [formedB, h2]
    rw [hq]
    clear hq
    have d1 : decide (kind < 1) = false := decide_eq_false h1
    have d2 : decide (19 < kind) = true := decide_eq_true h2
    go_enter Tryz.func91, Tryz.ntmps91
    go_wp2
    go_ret
    exact ⟨rfl, (((Below.refl _ _).alloc (Nat.le_refl _) _).alloc (by simp) _).alloc (by simp; omega) _⟩
  have d1 : decide (kind < 1) = false := decide_eq_false h1
  have d2 : decide (19 < kind) = false := decide_eq_false h2
  by_cases h3 : kind = 19
  · subst h3
    have hq : formedB nt i ⟨19, tok, ks⟩ = (decide ((ks.length : Int) = 0) && (decide (0 ≤ tok) && decide (tok < nt))) := by simp [formedB]
    rw [hq]
    clear hq hk d1 d2
    by_cases h4 : ks.length = 0
    · obtain rfl : ks = [] := List.length_eq_zero_iff.1 h4
      clear h4
      by_cases h5 : 0 ≤ tok
      · have d5 : decide (0 ≤ tok) = true := decide_eq_true h5
        cases d6 : decide (tok < (nt : Int)) with
        | true =>
          go_enter Tryz.func91, Tryz.ntmps91
          go_wp2
          go_ret
          exact ⟨ret_bool (by simp [*]), (((Below.refl _ _).alloc (Nat.le_refl _) _).alloc (by simp) _).alloc (by simp; omega) _⟩
        | false =>
          go_enter Tryz.func91, Tryz.ntmps91
          go_wp2
          go_ret
          exact ⟨ret_bool (by simp [*]), (((Below.refl _ _).alloc (Nat.le_refl _) _).alloc (by simp) _).alloc (by simp; omega) _⟩
      · have d5 : decide (0 ≤ tok) = false := decide_eq_false h5
        go_enter Tryz.func91, Tryz.ntmps91
        go_wp2
        go_ret
        exact ⟨ret_bool (by simp [*]), (((Below.refl _ _).alloc (Nat.le_refl _) _).alloc (by simp) _).alloc (by simp; omega) _⟩
    · have d4 : ((ks.length : Int) == 0) = false := by simp [h4]
      have d5 : decide ((ks.length : Int) = 0) = false := decide_eq_false (by omega)
      rw [d5, Bool.false_and]
      clear d5
      go_enter Tryz.func91, Tryz.ntmps91
      go_wp2
      go_ret
      exact ⟨rfl, (((Below.refl _ _).alloc (Nat.le_refl _) _).alloc (by simp) _).alloc (by simp; omega) _⟩
  · have d3 : (kind == 19) = false := by simp [h3]
    by_cases h4 : tok = -1
    · subst h4
      have hq : formedB nt i ⟨kind, -1, ks⟩ = !(ks.any (badI i)) := by
        unfold formedB
        rw [if_neg (by simp only; omega), if_neg h3]
        rfl
      rw [hq]
      clear hq
      have HK := Lib.hid hk
      clear hk
      go_enter Tryz.func91, Tryz.ntmps91
      go_wp2_with (go_at_call 122; refine (formedContains_any i (w.heap.size + 1) B _ ks _ ?c1 (HK.out.below ?c2) hn).mono ?_)
      case c2 => exact (((Below.refl _ _).alloc hB _).alloc (by simp; omega) _).alloc (by simp; omega) _
      go_ret
      exact ⟨rfl, (((Below.refl _ _).alloc (Nat.le_refl _) _).alloc (by simp) _).alloc (by simp; omega) _⟩
    · have hq : formedB nt i ⟨kind, tok, ks⟩ = false := by
        unfold formedB
        rw [if_neg (by simp only; omega), if_neg h3]
        simp [h4]
      rw [hq]
      clear hq hk
      have d4 : (tok == -1) = false := by simp [h4]
      go_enter Tryz.func91, Tryz.ntmps91
      go_wp2
      go_ret
      exact ⟨rfl, (((Below.refl _ _).alloc (Nat.le_refl _) _).alloc (by simp) _).alloc (by simp; omega) _⟩
end Go.Proofs.YtemkhbmkaalgdaaGreatDoor

namespace Go.Proofs.YtemkhbmkaalgdaaGreatDoor
open Go.RowKit
def SlP (P : Nat → Prop) (w : World) (v : Value) (sz n : Nat) (cs : List Value) : Prop :=
  ∃ ao cap, v = .slice ao n cap ∧ n ≤ cap ∧ cs.length = n * sz ∧
    (0 < n → ∃ b off, ao = some ⟨b, off, none⟩ ∧ P b ∧ b < w.heap.size ∧ ∀ i, (h : i < cs.length) → w.cell? ⟨b, off + i, none⟩ = some cs[i])
def Alk (P : Nat → Prop) (w w' : World) : Prop := w.heap.size ≤ w'.heap.size ∧ ∀ b, P b → b < w.heap.size → w'.heap[b]? = w.heap[b]?
theorem Alk.refl (P : Nat → Prop) (w : World) : Alk P w w := ⟨Nat.le_refl _, fun _ _ _ => rfl⟩
theorem Alk.trans {P : Nat → Prop} {a b c : World} (h : Alk P a b) (k : Alk P b c) : Alk P a c := ⟨Nat.le_trans h.1 k.1, fun n hn hl => (k.2 n hn (Nat.lt_of_lt_of_le hl h.1)).trans (h.2 n hn hl)⟩
theorem Alk.of {P : Nat → Prop} {w w' : World} (h : Below w.heap.size w w') : Alk P w w' := ⟨h.size, fun b _ hb => h.block b hb⟩
theorem Alk.ofB {P : Nat → Prop} {B : Nat} {w w' : World} (h : Below B w w') (hP : ∀ b, P b → b < B) : Alk P w w' := ⟨h.size, fun b hb _ => h.block b (hP b hb)⟩
theorem Alk.grown {P : Nat → Prop} {w w' : World} {row : Option Nat} (h : w.grownBy w' row) (hP : ∀ b, P b → some b ≠ row) : Alk P w w' := ⟨h.size, fun b hb hl => h.block b hl (hP b hb)⟩
theorem Alk.set {P : Nat → Prop} {w : World} {a : Addr} (u : Value) (hP : ∀ b, P b → b ≠ a.block) : Alk P w (w.setCell a u) := ⟨by simp, fun b hb _ => heap_setCell_other _ _ _ _ (hP b hb)⟩
theorem SlP.frame {P : Nat → Prop} {w w' : World} {v : Value} {sz n : Nat} {cs : List Value} (h : SlP P w v sz n cs) (ha : Alk P w w') : SlP P w' v sz n cs := by
  obtain ⟨ao, cap, hv, hn, hl, hc⟩ := h
  refine ⟨ao, cap, hv, hn, hl, fun h0 => ?_⟩
  obtain ⟨b, off, e, hP, hlt, hcell⟩ := hc h0
  exact ⟨b, off, e, hP, Nat.lt_of_lt_of_le hlt ha.1, fun i hi => (World.cell?_of_block (a := ⟨b, off + i, none⟩) (ha.2 b hP hlt)).trans (hcell i hi)⟩
theorem SlP.imp {P Q : Nat → Prop} {w : World} {v : Value} {sz n : Nat} {cs : List Value} (h : SlP P w v sz n cs) (hq : ∀ b, P b → b < w.heap.size → Q b) : SlP Q w v sz n cs := by
  obtain ⟨ao, cap, hv, hn, hl, hc⟩ := h
  refine ⟨ao, cap, hv, hn, hl, fun h0 => ?_⟩
  obtain ⟨b, off, e, hP, hlt, hcell⟩ := hc h0
  exact ⟨b, off, e, hq b hP hlt, hlt, hcell⟩
theorem SlP.nil (P : Nat → Prop) (w : World) (sz : Nat) : SlP P w (.slice none 0 0) sz 0 [] := ⟨none, 0, rfl, Nat.le_refl _, by simp, fun h => absurd h (by omega)⟩
theorem SlP.ofOwns {P : Nat → Prop} {B : Nat} {w : World} {e sz : Nat} {v : Value} {n : Nat} {cs : List Value} (h : w.ownsRow B e sz v n cs) (hP : ∀ b, B ≤ b → P b) : SlP P w v sz n cs := by
  obtain ⟨ao, cap, hv, hn, hl, hc⟩ := Sl.ofOwns h
  refine ⟨ao, cap, hv, hn, hl, fun h0 => ?_⟩
  obtain ⟨b, off, e, hlt, hcell⟩ := hc h0
  refine ⟨b, off, e, hP b ?_, hlt, hcell⟩
  rcases h.2 with ⟨hv', h1⟩ | ⟨g, cap', cur, hv', hg, _⟩
  · omega
  · rw [hv, e] at hv'
    simp only [Value.slice.injEq, Option.some.injEq, Addr.mk.injEq] at hv'
    omega
theorem SlP.form {P : Nat → Prop} {w : World} {v : Value} {sz n : Nat} {cs : List Value} (h : SlP P w v sz n cs) : ∃ ao cap, v = .slice ao n cap := by
  obtain ⟨ao, cap, hv, _⟩ := h
  exact ⟨ao, cap, hv⟩
structure Shape where
  sz : Nat
  cells : PE → Value → Value → List Value
  agg : PE → Value → Value → Value
  num : (Nat → Prop) → World → Int → Value → Prop
  len : ∀ e m k, (cells e m k).length = sz
  frame : ∀ {P : Nat → Prop} {w w' : World} {n : Int} {m : Value}, num P w n m → Alk P w w' → num P w' n m
  imp : ∀ {P Q : Nat → Prop} {w : World} {n : Int} {m : Value}, num P w n m → (∀ b, P b → b < w.heap.size → Q b) → num Q w n m
def rowsE (S : Shape) : List PE → List (Value × Value) → List Value
  | e :: es, p :: l => S.cells e p.1 p.2 ++ rowsE S es l
  | _, _ => []
mutual
def EAt (S : Shape) (P : Nat → Prop) (w : World) (mag kv : Value) : PE → Prop
  | .mk _op _name _module num _txt _yes kids _at_ => S.num P w num mag ∧ ∃ l : List (Value × Value), SlP P w kv S.sz kids.length (rowsE S kids l) ∧ EAtL S P w l kids
def EAtL (S : Shape) (P : Nat → Prop) (w : World) (l : List (Value × Value)) : List PE → Prop
  | [] => l = []
  | e :: es => ∃ p l', l = p :: l' ∧ EAt S P w p.1 p.2 e ∧ EAtL S P w l' es
end
mutual
theorem EAt.frame {S : Shape} {P : Nat → Prop} {w w' : World} (ha : Alk P w w') : ∀ {e : PE} {m k : Value}, EAt S P w m k e → EAt S P w' m k e
  | .mk op name module num txt yes kids at_, m, k, h => by
    rw [EAt] at h ⊢
    obtain ⟨h1, l, h2, h3⟩ := h
    exact ⟨S.frame h1 ha, l, h2.frame ha, EAtL.frame ha h3⟩
theorem EAtL.frame {S : Shape} {P : Nat → Prop} {w w' : World} (ha : Alk P w w') : ∀ {es : List PE} {l : List (Value × Value)}, EAtL S P w l es → EAtL S P w' l es
  | [], l, h => by rw [EAtL] at h ⊢; exact h
  | e :: es, l, h => by
    rw [EAtL] at h ⊢
    obtain ⟨p, l', h1, h2, h3⟩ := h
    exact ⟨p, l', h1, EAt.frame ha h2, EAtL.frame ha h3⟩
end
mutual
theorem EAt.imp {S : Shape} {P Q : Nat → Prop} {w : World} (hq : ∀ b, P b → b < w.heap.size → Q b) : ∀ {e : PE} {m k : Value}, EAt S P w m k e → EAt S Q w m k e
  | .mk op name module num txt yes kids at_, m, k, h => by
    rw [EAt] at h ⊢
    obtain ⟨h1, l, h2, h3⟩ := h
    exact ⟨S.imp h1 hq, l, h2.imp hq, EAtL.imp hq h3⟩
theorem EAtL.imp {S : Shape} {P Q : Nat → Prop} {w : World} (hq : ∀ b, P b → b < w.heap.size → Q b) : ∀ {es : List PE} {l : List (Value × Value)}, EAtL S P w l es → EAtL S Q w l es
  | [], l, h => by rw [EAtL] at h ⊢; exact h
  | e :: es, l, h => by
    rw [EAtL] at h ⊢
    obtain ⟨p, l', h1, h2, h3⟩ := h
    exact ⟨p, l', h1, EAt.imp hq h2, EAtL.imp hq h3⟩
end
theorem EAtL.len {S : Shape} {P : Nat → Prop} {w : World} : ∀ {es : List PE} {l : List (Value × Value)}, EAtL S P w l es → l.length = es.length
  | [], l, h => by rw [EAtL] at h; subst h; rfl
  | e :: es, l, h => by
    rw [EAtL] at h
    obtain ⟨p, l', rfl, _, h3⟩ := h
    simp [EAtL.len h3]
theorem EAtL.snoc {S : Shape} {P : Nat → Prop} {w : World} : ∀ {es : List PE} {l : List (Value × Value)} {e : PE} {m k : Value}, EAtL S P w l es → EAt S P w m k e → EAtL S P w (l ++ [(m, k)]) (es ++ [e])
  | [], l, e, m, k, h, h2 => by
    rw [EAtL] at h
    subst h
    rw [List.nil_append, List.nil_append, EAtL]
    exact ⟨(m, k), [], rfl, h2, by rw [EAtL]⟩
  | x :: es, l, e, m, k, h, h2 => by
    rw [EAtL] at h
    obtain ⟨p, l', rfl, h3, h4⟩ := h
    rw [List.cons_append, List.cons_append, EAtL]
    exact ⟨p, _, rfl, h3, h4.snoc h2⟩
theorem rowsE_snoc (S : Shape) : ∀ (es : List PE) (l : List (Value × Value)) (e : PE) (m k : Value), l.length = es.length → rowsE S (es ++ [e]) (l ++ [(m, k)]) = rowsE S es l ++ S.cells e m k
  | [], [], e, m, k, _ => by simp [rowsE]
  | x :: es, p :: l, e, m, k, h => by
    simp only [List.cons_append, rowsE, rowsE_snoc S es l e m k (by simpa using h), List.append_assoc]
  | [], _ :: _, _, _, _, h => by simp at h
  | _ :: _, [], _, _, _, h => by simp at h
theorem rowsE_at (S : Shape) : ∀ (es : List PE) (l : List (Value × Value)) (i j : Nat) (hl : l.length = es.length) (hi : i < es.length), j < S.sz → (rowsE S es l)[i * S.sz + j]? = (S.cells es[i] (l[i]'(by omega)).1 (l[i]'(by omega)).2)[j]?
  | [], [], i, j, _, h, _ => absurd h (by simp)
  | x :: es, p :: l, 0, j, _, _, hj => by
    simp only [rowsE, Nat.zero_mul, Nat.zero_add, List.getElem_cons_zero]
    rw [List.getElem?_append_left (by rw [S.len]; exact hj)]
  | x :: es, p :: l, i + 1, j, hl, hi, hj => by
    simp only [rowsE, List.getElem_cons_succ]
    rw [List.getElem?_append_right (by rw [S.len, Nat.succ_mul]; omega), S.len, show (i + 1) * S.sz + j - S.sz = i * S.sz + j by rw [Nat.succ_mul]; omega]
    exact rowsE_at S es l i j (by simpa using hl) (by simpa using hi) hj
  | [], _ :: _, _, _, h, _, _ => by simp at h
  | _ :: _, [], _, _, h, _, _ => by simp at h
theorem EAtL.get {S : Shape} {P : Nat → Prop} {w : World} : ∀ {es : List PE} {l : List (Value × Value)} (h : EAtL S P w l es) (i : Nat) (hi : i < es.length), EAt S P w (l[i]'(by rw [h.len]; exact hi)).1 (l[i]'(by rw [h.len]; exact hi)).2 es[i]
  | [], l, h, i, hi => absurd hi (by simp)
  | e :: es, l, h, i, hi => by
    have h' := h
    rw [EAtL] at h'
    obtain ⟨p, l', rfl, h3, h4⟩ := h'
    cases i with
    | zero => exact h3
    | succ i => exact h4.get i (by simpa using hi)
theorem EAt.form {S : Shape} {P : Nat → Prop} {w : World} {e : PE} {mag kv : Value} (h : EAt S P w mag kv e) : S.num P w e.num mag ∧ ∃ ao cap, kv = .slice ao e.kids.length cap ∧ e.kids.length ≤ cap ∧
    (0 < e.kids.length → ∃ b off, ao = some ⟨b, off, none⟩ ∧ P b ∧ b < w.heap.size ∧ ∀ i, (hi : i < e.kids.length) → ∃ m k, EAt S P w m k e.kids[i] ∧ ∀ j u, (S.cells e.kids[i] m k)[j]? = some u → w.cell? ⟨b, off + i * S.sz + j, none⟩ = some u) := by
  cases e with
  | mk op name module num txt yes kids at_ =>
    rw [EAt] at h
    obtain ⟨h1, l, ⟨ao, cap, hv, hn, hl, hc⟩, h3⟩ := h
    refine ⟨h1, ao, cap, hv, hn, fun h0 => ?_⟩
    obtain ⟨b, off, ha, hP, hlt, hcell⟩ := hc h0
    refine ⟨b, off, ha, hP, hlt, fun i hi => ?_⟩
    have hll := h3.len
    refine ⟨_, _, h3.get i hi, fun j u hu => ?_⟩
    have hj : j < S.sz := by
      rcases Nat.lt_or_ge j S.sz with h' | h'
      · exact h'
      · rw [List.getElem?_eq_none (by rw [S.len]; exact h')] at hu; cases hu
    have hr := rowsE_at S kids l i j hll hi hj
    have hu' := hr.trans hu
    obtain ⟨h', e⟩ := List.getElem?_eq_some_iff.1 hu'
    have := hcell (i * S.sz + j) h'
    rw [e] at this
    rw [Nat.add_assoc]
    exact this
def NumAt (P : Nat → Prop) (w : World) (n : Int) (m : Value) : Prop :=
  ∃ ws : List Nat, SlP P w m 1 ws.length (ws.map fun d => .int .u32 (d : Nat)) ∧ trimW ws = ws ∧ (∀ x ∈ ws, x < 4294967296) ∧ magV ws = n.natAbs
def strV (l : List UInt8) : Value := .string ⟨l.toArray⟩
def XA : Shape where
  sz := 8
  cells e m k := [.int .i64 e.op, strV e.name, strV e.module, .bool (decide (e.num < 0)), m, .bool e.yes, k, .int .i64 e.at_]
  agg e m k := .agg #[.int .i64 e.op, strV e.name, strV e.module, .bool (decide (e.num < 0)), m, .bool e.yes, k, .int .i64 e.at_]
  num := NumAt
  len _ _ _ := rfl
  frame h ha := by obtain ⟨ws, h1, h2⟩ := h; exact ⟨ws, h1.frame ha, h2⟩
  imp h hq := by obtain ⟨ws, h1, h2⟩ := h; exact ⟨ws, h1.imp hq, h2⟩
def XR : Shape where
  sz := 7
  cells e _ k := [.int .i64 e.op, strV e.name, strV e.module, strV e.txt, .bool e.yes, k, .int .i64 e.at_]
  agg e _ k := .agg #[.int .i64 e.op, strV e.name, strV e.module, strV e.txt, .bool e.yes, k, .int .i64 e.at_]
  num _ _ _ _ := True
  len _ _ _ := rfl
  frame _ _ := trivial
  imp _ _ := trivial
theorem NumAt.zero (P : Nat → Prop) (w : World) : NumAt P w 0 (.slice none 0 0) := ⟨[], SlP.nil P w 1, rfl, fun x h => (by cases h), rfl⟩
def EPost (S : Shape) (e : PE) (w : World) (r : Ending) (w' : World) : Prop := ∃ m k, r = .returned (S.agg e m k) ∧ EAt S (fun b => w.heap.size ≤ b) w' m k e ∧ Below w.heap.size w w'
end Go.Proofs.YtemkhbmkaalgdaaGreatDoor
