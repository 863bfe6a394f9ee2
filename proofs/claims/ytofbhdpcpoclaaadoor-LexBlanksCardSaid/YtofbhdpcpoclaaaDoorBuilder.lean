/- The walks of (*strings.Builder).copyCheck and WriteString, of a builder of the call's own. The new length at most 2^47 bytes. -/
import Derived.Test.YtofbhdpcpoclaaaDoorBase
import Derived.Test.YtofbhdpcpoclaaaDoorShelf
import Derived.Shelf.Strings.BuilderK
namespace Go.Proofs.YtofbhdpcpoclaaaDoor
open Go.RowKit

theorem sizeBuilder : (Tryd.prog.info? 49).map (·.size) = some 2 := by kernel_rfl
theorem liesBuilder : liesAt Tryd.prog Tryd.prog.depth 49 (2 / Tryd.prog.cellsOf 49) 0 49 1 = true := by kernel_rfl
theorem Tryd.infoByte : (Tryd.prog.info? 5).map (fun i => (i.zero, i.size, i.bytes)) = some (some (.int .u8 0), 1, 1) := by kernel_rfl

set_option maxHeartbeats 1000000 in
set_option maxRecDepth 100000 in
theorem copyCheck_used (b : Nat) (w : World) (h0 : w.cell? ⟨b, 0, none⟩ = some (.pointer (some ⟨b, 0, none⟩))) :
    Calls Tryd.prog 30 #[.pointer (some ⟨b, 0, none⟩)] w fun e w' => e = .returned (.tuple #[]) ∧ w' = w := by
  obtain ⟨j, hj, _⟩ := Option.map_eq_some_iff.1 sizeBuilder
  go_enter Tryd.func30, Tryd.ntmps30
  go_wp2
  rw [Lib.run_neq_ptr_same w _ Tryd.underlying47 hj]
  go_wp2
  go_end0
  exact ⟨rfl, rfl⟩

set_option maxHeartbeats 1000000 in
set_option maxRecDepth 100000 in
theorem copyCheck_fresh (b : Nat) (w : World) (h0 : w.cell? ⟨b, 0, none⟩ = some (.pointer none)) (hsh : w.shape? b = some (49, 2)) (hfz : w.frozen? ⟨b, 0, none⟩ = false) :
    Calls Tryd.prog 30 #[.pointer (some ⟨b, 0, none⟩)] w fun e w' => e = .returned (.tuple #[]) ∧ w' = w.setCell ⟨b, 0, none⟩ (.pointer (some ⟨b, 0, none⟩)) := by
  obtain ⟨j, hj, hjs⟩ := Option.map_eq_some_iff.1 sizeBuilder
  go_enter Tryd.func30, Tryd.ntmps30
  go_wp2
  rw [Lib.run_to_unsafe w ⟨b, 0, none⟩ Tryd.underlying47 Tryd.underlying76 hj (by rw [hjs]; decide) hsh (Nat.zero_lt_succ 1)]
  simp only [Result.andThen]
  rw [Oper.upon_value]
  go_wp2
  rw [run_callFunc_extern Tryd.func41 (by kernel_rfl) (by kernel_rfl) (by kernel_rfl) (e := Extern.AbiNoEscape.same) (by kernel_rfl)]
  rw [Lib.run_noEscape]
  simp only [Result.andThen]
  rw [Oper.upon_value]
  go_wp2
  rw [Lib.run_from_unsafe w ⟨b, 0, none⟩ Tryd.underlying76 Tryd.underlying47 hj hsh liesBuilder]
  simp only [Result.andThen]
  rw [Oper.upon_value]
  go_wp2
  go_end0
  exact ⟨rfl, rfl⟩

theorem copyCheck_k (B b : Nat) (bs : List Value) (w : World) (h : Lib.IsBuilderF 49 5 B b bs w) :
    Calls Tryd.prog 30 #[.pointer (some ⟨b, 0, none⟩)] w fun e w' => e = .returned (.tuple #[]) ∧ (Lib.BuilderAtF 49 5 B b (.pointer (some ⟨b, 0, none⟩)) bs w' ∧ Below B w w' ∧ Lib.OthersKept 5 (some b) w w') := by
  rcases h with h | h
  · refine (copyCheck_fresh b w h.cell0 h.shape h.frozen0).mono ?_
    rintro e w' ⟨rfl, rfl⟩
    exact ⟨rfl, h.used _, (Below.refl B w).setCell (p := ⟨b, 0, none⟩) h.1 _, (Lib.OthersKept.refl _ _ w).setCell ⟨b, 0, none⟩ rfl _⟩
  · refine (copyCheck_used b w h.cell0).mono ?_
    rintro e w' ⟨rfl, rfl⟩
    exact ⟨rfl, h, Below.refl B _, Lib.OthersKept.refl _ _ _⟩

set_option maxHeartbeats 1000000 in
set_option maxRecDepth 100000 in
/-- WriteString, of a builder of the call's own: what is no row of bytes, and not the builder, stands. -/
theorem writeString (B b : Nat) (bs : List Value) (s : ByteArray) (w : World) (h : Lib.IsBuilderF 49 5 B b bs w) (hlen : bs.length + s.size ≤ 140737488355328) (hBw : B ≤ w.heap.size) :
    Calls Tryd.prog 15 #[.pointer (some ⟨b, 0, none⟩), .string s] w fun e w' => e = .returned (.tuple #[.int .i64 s.size, .nilIface]) ∧ (Lib.IsBuilderF 49 5 B b (bs ++ Lib.strCells s) w' ∧ Below B w w' ∧ Lib.OthersKept 5 (some b) w w') := by
  obtain ⟨i0, hi, hz0, hz1, hz2⟩ := info_parts Tryd.infoByte
  go_enter Tryd.func15, Tryd.ntmps15
  go_wp2_with (go_at_call 30; refine (copyCheck_k B b bs _ h).mono ?_)
  rintro e w1 ⟨rfl, h1, hb1, hk1⟩
  obtain ⟨hB, v, hbk, hown, hne⟩ := h1
  have c0 : w1.cell? ⟨b, 0, none⟩ = some (.pointer (some ⟨b, 0, none⟩)) := by rw [Lib.cell_of_heap hbk]; rfl
  have c1 : w1.cell? ⟨b, 1, none⟩ = some v := by rw [Lib.cell_of_heap hbk]; rfl
  go_wp2_with (at_builtin; refine Lib.wpList_append_own_stringF _ rfl _ _ 32 9 rfl B 5 i0 Tryd.underlying32 Tryd.underlying9 hi hz0 hz1 hz2 _ _ _ rfl hown s rfl ?c3 ?c4 ?c5 ?_)
  case c3 => unfold maxLen; omega
  case c4 => omega
  case c5 => have := hb1.size; omega
  intro v' w2 hown' hgrow _
  have hlt : b < w1.heap.size := by
    rcases Nat.lt_or_ge b w1.heap.size with h' | h'
    · exact h'
    · simp [Array.getElem?_eq_none h'] at hbk
  have hb2 : w2.heap[b]? = some (.cells #[.pointer (some ⟨b, 0, none⟩), v] 49 (0, 0)) := by
    rw [hgrow.block b hlt (fun e => hne e.symm)]
    exact hbk
  have d0 : w2.cell? ⟨b, 0, none⟩ = some (.pointer (some ⟨b, 0, none⟩)) := by rw [Lib.cell_of_heap hb2]; rfl
  have d1 : w2.cell? ⟨b, 1, none⟩ = some v := by rw [Lib.cell_of_heap hb2]; rfl
  have f1 : w2.frozen? ⟨b, 1, none⟩ = false := Lib.frozen_of_heap hb2 1
  obtain ⟨ao, n', cap, rfl⟩ : ∃ ao n' cap, v' = .slice ao n' cap := by
    rcases hown'.2 with ⟨hv, _⟩ | ⟨g, cap, cur, fz, hv, _⟩
    · exact ⟨_, _, _, hv⟩
    · exact ⟨_, _, _, hv⟩
  go_wp2
  go_ret2
  refine ⟨rfl, ?_, ?_, (hk1.grown hgrow (Lib.ownsRowF_kind hown)).setCell ⟨b, 1, none⟩ rfl _⟩
  · exact Or.inr (Lib.BuilderAtF.put (T := 49) (e := 5) hB hb2 (bs' := bs ++ Lib.strCells s) (by simpa [Lib.strCells_length] using hown') (by decide))
  · exact (hb1.grown hgrow (by have := hb1.size; omega) (fun k hk => (hown.lt k hk).1)).setCell (p := ⟨b, 1, none⟩) hB _

/-- A builder of the call's own, in block b, that holds the bytes acc. -/
def Bld (B b : Nat) (acc : List UInt8) (w : World) : Prop := Lib.IsBuilderF 49 5 B b (Lib.byteCells acc) w

theorem Bld.at {B b : Nat} {acc : List UInt8} {w : World} (h : Bld B b acc w) : ∃ p, Lib.BuilderAtF 49 5 B b p (Lib.byteCells acc) w := by
  rcases h with h | h
  · exact ⟨_, h⟩
  · exact ⟨_, h⟩
theorem Bld.le {B b : Nat} {acc : List UInt8} {w : World} (h : Bld B b acc w) : B ≤ b := by obtain ⟨p, h⟩ := h.at; exact h.1
theorem Bld.lt {B b : Nat} {acc : List UInt8} {w : World} (h : Bld B b acc w) : b < w.heap.size := by obtain ⟨p, h⟩ := h.at; exact h.lt
theorem Bld.alloc {B b : Nat} {acc : List UInt8} {w : World} (h : Bld B b acc w) (o : Obj) : Bld B b acc (w.alloc o) := by
  rcases h with h | h
  · exact Or.inl (h.alloc o)
  · exact Or.inr (h.alloc o)
theorem Bld.drew {B b : Nat} {acc : List UInt8} {w : World} (h : Bld B b acc w) : Bld B b acc w.drew := by
  rcases h with h | h
  · exact Or.inl h.drew
  · exact Or.inr h.drew
theorem Bld.fresh (w : World) : Bld w.heap.size w.heap.size [] (w.alloc (.cells #[.pointer none, .slice none 0 0] 49)) :=
  Lib.IsBuilderF.of (Lib.fresh_isBuilder 49 5 w)
theorem Bld.mono {B B' b : Nat} {acc : List UInt8} {w : World} (h : Bld B b acc w) (hb : B' ≤ B) : Bld B' b acc w := by
  have key : ∀ p, Lib.BuilderAtF 49 5 B b p (Lib.byteCells acc) w → Lib.BuilderAtF 49 5 B' b p (Lib.byteCells acc) w := by
    rintro p ⟨h1, v, h2, ⟨h3, h4⟩, h5⟩
    refine ⟨by omega, v, h2, ⟨h3, ?_⟩, h5⟩
    rcases h4 with h4 | ⟨g, cap, cur, fz, q1, q2, q3⟩
    · exact Or.inl h4
    · exact Or.inr ⟨g, cap, cur, fz, q1, by omega, q3⟩
  rcases h with h | h
  · exact Or.inl (key _ h)
  · exact Or.inr (key _ h)
theorem Bld.ne {B b k : Nat} {acc : List UInt8} {w : World} (h : Bld B b acc w) {cs : Array Value} {T : TypeId} {fr : Nat × Nat} (hk : w.heap[k]? = some (.cells cs T fr)) (hT : T ≠ 49) : k ≠ b := by
  obtain ⟨p, _, v, hb, _⟩ := h.at
  rintro rfl
  rw [hk] at hb
  simp only [Option.some.injEq, Obj.cells.injEq] at hb
  exact hT hb.2.1
/-- A block of another type stands when the builder is written to. -/
theorem Bld.block {B b k : Nat} {acc : List UInt8} {w w' : World} (h : Bld B b acc w) (ho : Lib.OthersKept 5 (some b) w w') {cs : Array Value} {T : TypeId} {fr : Nat × Nat} (hk : w.heap[k]? = some (.cells cs T fr))
    (hT : T ≠ 49) (he : T ≠ 5) : w'.heap[k]? = some (.cells cs T fr) :=
  ho k _ hk (fun e => h.ne hk hT (Option.some.inj e)) (fun c fz e => he (by injection e))
/-- A row of another type, too. -/
theorem Bld.row {B b base e sz n : Nat} {v : Value} {xs : List Value} {acc : List UInt8} {w w' : World} (h : Bld B b acc w) (ho : Lib.OthersKept 5 (some b) w w') (hr : w.ownsRow base e sz v n xs)
    (hT : e ≠ 49) (he : e ≠ 5) : w'.ownsRow base e sz v n xs := by
  obtain ⟨h1, h2⟩ := hr
  refine ⟨h1, ?_⟩
  rcases h2 with h2 | ⟨g, cap, cur, q1, q2, q3, q4⟩
  · exact Or.inl h2
  · exact Or.inr ⟨g, cap, cur, q1, q2, h.block ho q3 hT he, q4⟩
/-- The builder stands when a row of another type is written to. -/
theorem Bld.grown {B b base e sz n : Nat} {v : Value} {xs : List Value} {acc : List UInt8} {w w' : World} (h : Bld B b acc w) (hr : w.ownsRow base e sz v n xs) (hg : w.grownBy w' v.ownBlock)
    (hT : e ≠ 49) (he : e ≠ 5) : Bld B b acc w' := by
  have hrow : ∀ k, v.ownBlock = some k → ∃ cs, w.heap[k]? = some (.cells cs e (0, 0)) := by
    intro k hk
    rcases hr.2 with ⟨rfl, _⟩ | ⟨g, cap, cur, rfl, _, hgg, _⟩
    · simp [Value.ownBlock] at hk
    · simp [Value.ownBlock] at hk; subst hk; exact ⟨_, hgg⟩
  have key : ∀ p, Lib.BuilderAtF 49 5 B b p (Lib.byteCells acc) w → Lib.BuilderAtF 49 5 B b p (Lib.byteCells acc) w' := by
    rintro p ⟨h1, u, h2, h3, h5⟩
    have hlt : b < w.heap.size := h.lt
    refine ⟨h1, u, ?_, h3.kept hg ?_, h5⟩
    · rw [hg.block b hlt (fun q => ?_)]
      · exact h2
      · obtain ⟨cs, hcs⟩ := hrow b q.symm
        exact h.ne hcs hT rfl
    · rcases h3.2 with ⟨rfl, _⟩ | ⟨g, cap, cur, fz, rfl, _, hgg, _⟩
      · exact Or.inl rfl
      · refine Or.inr (fun q => ?_)
        obtain ⟨cs, hcs⟩ := hrow g (by rw [← q]; rfl)
        rw [hcs] at hgg
        simp only [Option.some.injEq, Obj.cells.injEq] at hgg
        exact he hgg.2.1
  rcases h with h | h
  · exact Or.inl (key _ h)
  · exact Or.inr (key _ h)

theorem write_any (B b : Nat) (acc : List UInt8) (s : ByteArray) (w : World) (h : Bld B b acc w) (hlen : acc.length + s.size ≤ 140737488355328) (hBw : B ≤ w.heap.size) :
    Calls Tryd.prog 15 #[.pointer (some ⟨b, 0, none⟩), .string s] w fun e w' => e = .returned (.tuple #[.int .i64 s.size, .nilIface]) ∧ Bld B b (acc ++ s.data.toList) w' ∧ Below B w w' ∧ Lib.OthersKept 5 (some b) w w' := by
  have := writeString B b (Lib.byteCells acc) s w h (by rw [Lib.byteCells_length]; exact hlen) hBw
  rw [Lib.strCells_eq, ← Lib.byteCells_append] at this
  exact this
theorem bstring_any (B b : Nat) (acc : List UInt8) (w : World) (h : Bld B b acc w) (hBw : B ≤ w.heap.size) :
    Calls Tryd.prog 16 #[.pointer (some ⟨b, 0, none⟩)] w fun e w' => e = .returned (.string ⟨acc.toArray⟩) ∧ Bld B b acc w' ∧ Below B w w' ∧ Lib.OthersKept 5 (some b) w w' :=
  Tryd.Builder_String_any_k B b acc w h hBw
end Go.Proofs.YtofbhdpcpoclaaaDoor
