/- The words that the walks of this claim use: slices that are read, rows of records. No condition. -/
import Derived.WalkKit
import Derived.WalkSpells
import Derived.WalkLawsBesides
import Derived.Lib.OthersKept
import Derived.Lib.Hide
import Derived.BigQuiet
import Derived.BigGuardPart
import Derived.Deep.QuietTactic
import Derived.StillTailTactics
import Derived.Deep.RegionHeld3
import Derived.Deep.AppendLies
import Derived.Deep.DrawnRows
import Derived.Deep.DeepCutAuto
namespace Go.Proofs.YtofbhdpcpoclaaaDoor
open Go.RowKit

/-- v is a slice of n elements of sz cells each; cs are its cells; they lie below block B. -/
def Sl (B : Nat) (w : World) (v : Value) (sz n : Nat) (cs : List Value) : Prop :=
  ∃ ao cap, v = .slice ao n cap ∧ n ≤ cap ∧ cs.length = n * sz ∧
    (0 < n → ∃ b off, ao = some ⟨b, off, none⟩ ∧ b < B ∧ ∀ i, (h : i < cs.length) → w.cell? ⟨b, off + i, none⟩ = some cs[i])

theorem Sl.below {B : Nat} {w w' : World} {v : Value} {sz n : Nat} {cs : List Value} (h : Sl B w v sz n cs) (hb : Below B w w') : Sl B w' v sz n cs := by
  obtain ⟨ao, cap, hv, hn, hl, hc⟩ := h
  refine ⟨ao, cap, hv, hn, hl, fun h0 => ?_⟩
  obtain ⟨b, off, ha, hB, hcell⟩ := hc h0
  exact ⟨b, off, ha, hB, fun i hi => (hb.cell (p := ⟨b, off + i, none⟩) hB).trans (hcell i hi)⟩

theorem Sl.mono {B B' : Nat} {w : World} {v : Value} {sz n : Nat} {cs : List Value} (h : Sl B w v sz n cs) (hB : B ≤ B') : Sl B' w v sz n cs := by
  obtain ⟨ao, cap, hv, hn, hl, hc⟩ := h
  refine ⟨ao, cap, hv, hn, hl, fun h0 => ?_⟩
  obtain ⟨b, off, ha, hb, hcell⟩ := hc h0
  exact ⟨b, off, ha, Nat.lt_of_lt_of_le hb hB, hcell⟩

theorem Sl.ofOwns {B : Nat} {w : World} {e sz : Nat} {v : Value} {n : Nat} {cs : List Value} (h : w.ownsRow B e sz v n cs) : Sl w.heap.size w v sz n cs := by
  obtain ⟨hl, h⟩ := h
  rcases h with ⟨rfl, rfl⟩ | ⟨g, cap, cur, rfl, hg, hh, hn, hm, hs, hx⟩
  · exact ⟨none, 0, rfl, Nat.le_refl _, hl, fun h0 => absurd h0 (by omega)⟩
  · refine ⟨some ⟨g, 0, none⟩, cap, rfl, hn, hl, fun _ => ⟨g, 0, rfl, ?_, fun i hi => ?_⟩⟩
    · rcases Nat.lt_or_ge g w.heap.size with h' | h'
      · exact h'
      · simp [Array.getElem?_eq_none h'] at hh
    · subst hx
      simp only [List.length_take] at hi
      simp only [World.cell?, hh, Nat.zero_add, List.getElem_take]
      simp only [Option.isSome_none, Bool.false_eq_true, if_false]
      rw [Array.getElem?_eq_getElem (by simpa using (by omega : i < cur.toList.length))]
      simp

theorem flat_at {α : Type} {f : α → List Value} {sz : Nat} (hf : ∀ x, (f x).length = sz) : ∀ (l : List α) (k j : Nat) (hk : k < l.length), j < sz →
    (l.flatMap f)[k * sz + j]? = (f l[k])[j]?
  | [], k, j, hk, _ => absurd hk (by simp)
  | x :: l, 0, j, _, hj => by
    simp only [List.flatMap_cons, Nat.zero_mul, Nat.zero_add, List.getElem_cons_zero]
    rw [List.getElem?_append_left (by rw [hf]; exact hj)]
  | x :: l, k + 1, j, hk, hj => by
    have := flat_at hf l k j (by simpa using hk) hj
    simp only [List.flatMap_cons, List.getElem_cons_succ]
    rw [List.getElem?_append_right (by rw [hf, Nat.succ_mul]; omega), hf, show (k + 1) * sz + j - sz = k * sz + j by rw [Nat.succ_mul]; omega]
    exact this

theorem flat_length {α : Type} {f : α → List Value} {sz : Nat} (hf : ∀ x, (f x).length = sz) (l : List α) : (l.flatMap f).length = l.length * sz := by
  induction l with
  | nil => simp
  | cons x l ih => simp [hf, ih, Nat.succ_mul]; omega

/-- A slice of records: each x of l lies there as the cells f x. -/
def Rec {α : Type} (B : Nat) (w : World) (v : Value) (sz : Nat) (f : α → List Value) (l : List α) : Prop := Sl B w v sz l.length (l.flatMap f)

/-- What a walk reads of a slice of records. -/
theorem Rec.form {α : Type} {B : Nat} {w : World} {v : Value} {sz : Nat} {f : α → List Value} {l : List α} (h : Rec B w v sz f l) (hf : ∀ x, (f x).length = sz) :
    ∃ ao cap, v = .slice ao l.length cap ∧ l.length ≤ cap ∧ (0 < l.length → ∃ b off, ao = some ⟨b, off, none⟩ ∧ b < B ∧
      ∀ k j u, (hk : k < l.length) → (f l[k])[j]? = some u → w.cell? ⟨b, off + k * sz + j, none⟩ = some u) := by
  obtain ⟨ao, cap, hv, hn, hl, hc⟩ := h
  refine ⟨ao, cap, hv, hn, fun h0 => ?_⟩
  obtain ⟨b, off, ha, hB, hcell⟩ := hc h0
  refine ⟨b, off, ha, hB, fun k j u hk hu => ?_⟩
  have hj : j < sz := by
    rcases Nat.lt_or_ge j sz with h' | h'
    · exact h'
    · rw [List.getElem?_eq_none (by rw [hf]; exact h')] at hu; cases hu
  have hi := flat_at hf l k j hk hj
  rw [hu] at hi
  obtain ⟨h', e⟩ := List.getElem?_eq_some_iff.1 hi
  have := hcell (k * sz + j) h'
  rw [e] at this
  rw [Nat.add_assoc]
  exact this

theorem Rec.below {α : Type} {B : Nat} {w w' : World} {v : Value} {sz : Nat} {f : α → List Value} {l : List α} (h : Rec B w v sz f l) (hb : Below B w w') : Rec B w' v sz f l := Sl.below h hb
theorem Rec.mono {α : Type} {B B' : Nat} {w : World} {v : Value} {sz : Nat} {f : α → List Value} {l : List α} (h : Rec B w v sz f l) (hB : B ≤ B') : Rec B' w v sz f l := Sl.mono h hB

theorem owns_drew {w : World} {base e sz n : Nat} {v : Value} {xs : List Value} (h : w.ownsRow base e sz v n xs) : w.drew.ownsRow base e sz v n xs := h
/-- An owned row lies in no block of another type. -/
theorem own_ne {w : World} {base e sz n k : Nat} {v : Value} {xs : List Value} (hr : w.ownsRow base e sz v n xs) {cs : Array Value} {T : TypeId} {fr : Nat × Nat} (hk : w.heap[k]? = some (.cells cs T fr)) (hT : T ≠ e) : some k ≠ v.ownBlock := by
  rcases hr.2 with ⟨rfl, _⟩ | ⟨g, cap, cur, rfl, _, hgg, _⟩
  · simp [Value.ownBlock]
  · intro q
    simp only [Value.ownBlock, Option.some.injEq] at q
    subst q
    rw [hk] at hgg
    simp only [Option.some.injEq, Obj.cells.injEq] at hgg
    exact hT hgg.2.1
/-- A block of another type stands when an owned row is written to. -/
theorem own_block {w w' : World} {base e sz n k : Nat} {v : Value} {xs : List Value} (hr : w.ownsRow base e sz v n xs) (hg : w.grownBy w' v.ownBlock) {cs : Array Value} {T : TypeId} {fr : Nat × Nat} (hk : w.heap[k]? = some (.cells cs T fr)) (hT : T ≠ e) :
    w'.heap[k]? = some (.cells cs T fr) := by
  rw [hg.block k (Array.getElem?_eq_some_iff.1 hk).1 (own_ne hr hk hT)]
  exact hk

theorem ret_int {k : IntKind} {a b : Int} (h : a = b) : Ending.returned (.int k a) = .returned (.int k b) := by rw [h]
theorem ret_bool {a b : Bool} (h : a = b) : Ending.returned (.bool a) = .returned (.bool b) := by rw [h]

theorem isEmpty_size (s : ByteArray) : s.toList.isEmpty = decide (s.size = 0) := by
  rw [Go.ByteArray.toList_eq]
  have : s.data.toList.length = s.size := by cases s; rfl
  cases h : s.data.toList with
  | nil => rw [h, List.length_nil] at this; exact (decide_eq_true (by omega)).symm
  | cons a t => rw [h, List.length_cons] at this; exact (decide_eq_false (by omega)).symm
end Go.Proofs.YtofbhdpcpoclaaaDoor
