/- Arguments of a law, opened: a slice of structs of one-cell fields, as cells. No program in sight. -/
import Derived.Test.YtofbhdpcpoclaaaDoorBase
import Derived.Deep.Slices
import Derived.Deep.Fields
import Derived.ChangeSame
namespace Go.Proofs.YtofbhdpcpoclaaaDoor
open Go.ChangeShapes Go.WideShapes Go.Deep Go.RowKit
theorem exists_list {α : Type} {Q : Nat → α → Prop} : ∀ (n : Nat), (∀ i, i < n → ∃ a, Q i a) → ∃ l : List α, l.length = n ∧ ∀ i (h : i < l.length), Q i l[i]
  | 0, _ => ⟨[], rfl, fun i h => absurd h (by simp)⟩
  | n + 1, h => by
    obtain ⟨l, hl, hq⟩ := exists_list n (fun i hi => h i (by omega))
    obtain ⟨a, ha⟩ := h n (by omega)
    refine ⟨l ++ [a], by simp [hl], fun i hi => ?_⟩
    rcases Nat.lt_or_ge i l.length with h' | h'
    · rw [List.getElem_append_left h']; exact hq i h'
    · have : i = n := by simp at hi; omega
      subst this
      rw [List.getElem_append_right h']
      simp only [hl, Nat.sub_self]
      exact ha

/-- From cells, record by record, to a slice of records. -/
theorem Rec.of {α : Type} {B b off len cap sz : Nat} {w : World} {f : α → List Value} {l : List α} (hf : ∀ x, (f x).length = sz) (hl : l.length = len) (hcap : len ≤ cap) (hb : b < B) (hsz : 0 < sz)
    (hc : ∀ i (h : i < l.length), ∀ j u, (f l[i])[j]? = some u → w.cell? ⟨b, off + (i * sz + j), none⟩ = some u) :
    Rec B w (.slice (some ⟨b, off, none⟩) len cap) sz f l := by
  subst hl
  refine ⟨some ⟨b, off, none⟩, cap, rfl, hcap, flat_length hf l, fun _ => ⟨b, off, rfl, hb, fun i hi => ?_⟩⟩
  rw [flat_length hf] at hi
  have h1 : i / sz < l.length := Nat.div_lt_of_lt_mul (by rw [Nat.mul_comm]; exact hi)
  have h2 : i % sz < sz := Nat.mod_lt _ hsz
  have h3 : i / sz * sz + i % sz = i := by rw [Nat.mul_comm]; exact Nat.div_add_mod i sz
  have h4 := flat_at hf l (i / sz) (i % sz) h1 h2
  rw [h3] at h4
  have h5 : (f l[i / sz])[i % sz]? = some ((f l[i / sz])[i % sz]'(by rw [hf]; exact h2)) := List.getElem?_eq_getElem _
  have h6 := hc (i / sz) h1 (i % sz) _ h5
  rw [h3] at h6
  rw [h6]
  rw [h5] at h4
  obtain ⟨h7, h8⟩ := List.getElem?_eq_some_iff.1 h4
  rw [h8]

theorem Rec.nil {α : Type} {B cap sz : Nat} {w : World} {f : α → List Value} {ao : Option Addr} : Rec B w (.slice ao 0 cap) sz f [] :=
  ⟨ao, cap, rfl, Nat.zero_le _, by simp, fun h => absurd h (by simp)⟩

theorem add_none (b off n : Nat) : (⟨b, off, none⟩ : Addr).add n = ⟨b, off + n, none⟩ := by
  unfold Addr.add
  split
  · rename_i h; subst h; rfl
  · rfl

/-- An argument that is a slice of structs of sz one-cell fields, opened: 'take' says what a row of cells is, field by field. -/
theorem open_recs {H : Type} {enc : TypeId × Value → H} {P : Program} {w : World} {base : Nat} {spare : Nat → Bool} {held : Bool} {α : Type} {g : α → List Value} {Good : α → Prop} {sz : Nat} {t e : TypeId} {fs : Array Field} {fuel : Nat} {v : Value} {x : DataW H × List MemPlace}
    (ht : P.underlying t = some (.slice e)) (he : P.underlying e = some (.struct fs)) (hone : oneCellFields P fs = true) (hC : P.cellsOf e = sz) (hfs : fs.size = sz) (hg : ∀ a, (g a).length = sz) (hsz : 0 < sz)
    (take : ∀ us : List Value, us.length = sz → (∀ (j : Nat) (f : Field), fs[j]? = some f → ∃ u n y, us[j]? = some u ∧ DataW.trod enc P w base spare held n f.type [u] = some y) → ∃ a, g a = us ∧ Good a)
    (h : DataW.trod enc P w base spare held fuel t [v] = some x) :
    ∃ l : List α, Rec w.heap.size w v sz g l ∧ l.length ≤ maxLen ∧ ∀ k (hk : k < l.length), Good l[k] := by
  rcases open_slice ht h with ⟨hcs, _⟩ | ⟨a, len, cap, m, n, D, Pl, hcs, _, hlc, hcm, hm, _, hi⟩
  · obtain rfl : v = .slice none 0 0 := by simpa using hcs
    exact ⟨[], Rec.nil, Nat.zero_le _, fun k hk => absurd hk (by simp)⟩
  obtain rfl : v = .slice (some a) len cap := by simpa using hcs
  have hlm : len ≤ m := by rw [hm]; split <;> omega
  have hrow : ∀ i, i < len → ∃ r : α, (∀ j u, (g r)[j]? = some u → w.cell? ((a.add (i * sz)).add j) = some u) ∧ Good r := by
    intro i hil
    obtain ⟨cs, hc, htr⟩ := hi i (by omega)
    rw [hC] at hc
    obtain ⟨_, hlen, hat⟩ := World.cells?_some hc
    obtain ⟨ys, n', _, _, _, hyl, hf⟩ := DataW.trod_struct he htr
    obtain ⟨r, hr, hgood⟩ := take cs hlen (by
      intro j f hj
      have hjl : j < fs.size := (Array.getElem?_eq_some_iff.1 hj).1
      obtain ⟨ho, hk⟩ := hone_of hone j f hj
      have h1 := hf j f hj
      rw [ho, hk, List.drop_eq_getElem_cons (by omega)] at h1
      refine ⟨cs[j]'(by omega), n', ys[j]'(by omega), List.getElem?_eq_getElem _, ?_⟩
      rw [← List.getElem?_eq_getElem]
      exact h1)
    refine ⟨r, fun j u hu => ?_, hgood⟩
    rw [hr] at hu
    obtain ⟨hj, _⟩ := List.getElem?_eq_some_iff.1 hu
    rw [hat j (by omega), hu]
  rcases Nat.eq_zero_or_pos len with h0 | h0
  · subst h0
    exact ⟨[], Rec.nil, Nat.zero_le _, fun k hk => absurd hk (by simp)⟩
  obtain ⟨b, off, spot⟩ := a
  obtain ⟨r0, hr0, _⟩ := hrow 0 h0
  have hc0 := hr0 0 ((g r0)[0]'(by rw [hg]; exact hsz)) (List.getElem?_eq_getElem _)
  rw [Nat.zero_mul] at hc0
  have hc0 : w.cell? ⟨b, off, spot⟩ = some ((g r0)[0]'(by rw [hg]; exact hsz)) := by simpa [Addr.add] using hc0
  have hspot : spot = none := World.cell?_spot hc0
  subst hspot
  have hb : b < w.heap.size := World.block_lt_of_cell? w _ hc0
  obtain ⟨l, hl, hq⟩ := exists_list len hrow
  refine ⟨l, Rec.of hg hl hlc hb hsz (fun i h' j u hu => ?_), by omega, fun k hk => (hq k hk).2⟩
  have := (hq i h').1 j u hu
  rw [add_none, add_none, Nat.add_assoc] at this
  exact this
end Go.Proofs.YtofbhdpcpoclaaaDoor
