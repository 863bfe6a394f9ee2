/- The walks of the code that the claim reaches, and the plain laws: Builder, SizeW, AtsW, LexWhole. No condition of ours. -/
import Derived.Test.YtdjkibbnkklajaaGreatDoorM01
import Derived.Test.YtdjkibbnkklajaaGreatDoorM06
import Derived.Shelf.Strings.BuilderK
import Derived.BigQuiet
import Derived.Lib.Hide
import Derived.Test.YtdjkibbnkklajaaGreatDoorM04
import Derived.Maps.AppendAt
import Derived.RangeFuncBox
import Derived.Test.YtdjkibbnkklajaaGreatDoorM07
namespace Go.Proofs.YtdjkibbnkklajaaGreatDoor
open Go.RowKit

theorem sizeBuilder : (Tryz.prog.info? 75).map (·.size) = some 2 := by kernel_rfl
theorem liesBuilder : liesAt Tryz.prog Tryz.prog.depth 75 (2 / Tryz.prog.cellsOf 75) 0 75 1 = true := by kernel_rfl
theorem Tryz.infoByte : (Tryz.prog.info? 5).map (fun i => (i.zero, i.size, i.bytes)) = some (some (.int .u8 0), 1, 1) := by kernel_rfl

set_option maxHeartbeats 1000000 in
set_option maxRecDepth 100000 in
theorem copyCheck_used (b : Nat) (w : World) (h0 : w.cell? ⟨b, 0, none⟩ = some (.pointer (some ⟨b, 0, none⟩))) :
    Calls Tryz.prog 67 #[.pointer (some ⟨b, 0, none⟩)] w fun e w' => e = .returned (.tuple #[]) ∧ w' = w := by
  obtain ⟨j, hj, _⟩ := Option.map_eq_some_iff.1 sizeBuilder
  go_enter Tryz.func67, Tryz.ntmps67
  go_wp2
  rw [Lib.run_neq_ptr_same w _ Tryz.underlying72 hj]
  go_wp2
  go_end0
  exact ⟨rfl, rfl⟩

set_option maxHeartbeats 1000000 in
set_option maxRecDepth 100000 in
theorem copyCheck_fresh (b : Nat) (w : World) (h0 : w.cell? ⟨b, 0, none⟩ = some (.pointer none)) (hsh : w.shape? b = some (75, 2)) (hfz : w.frozen? ⟨b, 0, none⟩ = false) :
    Calls Tryz.prog 67 #[.pointer (some ⟨b, 0, none⟩)] w fun e w' => e = .returned (.tuple #[]) ∧ w' = w.setCell ⟨b, 0, none⟩ (.pointer (some ⟨b, 0, none⟩)) := by
  obtain ⟨j, hj, hjs⟩ := Option.map_eq_some_iff.1 sizeBuilder
  go_enter Tryz.func67, Tryz.ntmps67
  go_wp2
  rw [Lib.run_to_unsafe w ⟨b, 0, none⟩ Tryz.underlying72 Tryz.underlying147 hj (by rw [hjs]; decide) hsh (Nat.zero_lt_succ 1)]
  simp only [Result.andThen]
  rw [Oper.upon_value]
  go_wp2
  rw [run_callFunc_extern Tryz.func95 (by kernel_rfl) (by kernel_rfl) (by kernel_rfl) (e := Extern.AbiNoEscape.same) (by kernel_rfl)]
  rw [Lib.run_noEscape]
  simp only [Result.andThen]
  rw [Oper.upon_value]
  go_wp2
  rw [Lib.run_from_unsafe w ⟨b, 0, none⟩ Tryz.underlying147 Tryz.underlying72 hj hsh liesBuilder]
  simp only [Result.andThen]
  rw [Oper.upon_value]
  go_wp2
  go_end0
  exact ⟨rfl, rfl⟩

theorem copyCheck_k (B b : Nat) (bs : List Value) (w : World) (h : Lib.IsBuilderF 75 5 B b bs w) :
    Calls Tryz.prog 67 #[.pointer (some ⟨b, 0, none⟩)] w fun e w' => e = .returned (.tuple #[]) ∧ (Lib.BuilderAtF 75 5 B b (.pointer (some ⟨b, 0, none⟩)) bs w' ∧ Below B w w' ∧ Lib.OthersKept 5 (some b) w w') := by
  rcases h with h | h
  · refine (copyCheck_fresh b w h.cell0 h.shape h.frozen0).mono ?_
    rintro e w' ⟨rfl, rfl⟩
    exact ⟨rfl, h.used _, (Below.refl B w).setCell (p := ⟨b, 0, none⟩) h.1 _, (Lib.OthersKept.refl _ _ w).setCell ⟨b, 0, none⟩ rfl _⟩
  · refine (copyCheck_used b w h.cell0).mono ?_
    rintro e w' ⟨rfl, rfl⟩
    exact ⟨rfl, h, Below.refl B _, Lib.OthersKept.refl _ _ _⟩

set_option maxHeartbeats 1000000 in
set_option maxRecDepth 100000 in
/-- WriteString, of a builder of the call's own: what is no row of bytes, and not the builder, stands. -/
theorem writeString (B b : Nat) (bs : List Value) (s : ByteArray) (w : World) (h : Lib.IsBuilderF 75 5 B b bs w) (hlen : bs.length + s.size ≤ 140737488355328) (hBw : B ≤ w.heap.size) :
    Calls Tryz.prog 41 #[.pointer (some ⟨b, 0, none⟩), .string s] w fun e w' => e = .returned (.tuple #[.int .i64 s.size, .nilIface]) ∧ (Lib.IsBuilderF 75 5 B b (bs ++ Lib.strCells s) w' ∧ Below B w w' ∧ Lib.OthersKept 5 (some b) w w') := by
  obtain ⟨i0, hi, hz0, hz1, hz2⟩ := info_parts Tryz.infoByte
  go_enter Tryz.func41, Tryz.ntmps41
  go_wp2_with (go_at_call 67; refine (copyCheck_k B b bs _ h).mono ?_)
  rintro e w1 ⟨rfl, h1, hb1, hk1⟩
  obtain ⟨hB, v, hbk, hown, hne⟩ := h1
  have c0 : w1.cell? ⟨b, 0, none⟩ = some (.pointer (some ⟨b, 0, none⟩)) := by rw [Lib.cell_of_heap hbk]; rfl
  have c1 : w1.cell? ⟨b, 1, none⟩ = some v := by rw [Lib.cell_of_heap hbk]; rfl
  go_wp2_with (at_builtin; refine Lib.wpList_append_own_stringF _ rfl _ _ 73 9 rfl B 5 i0 Tryz.underlying73 Tryz.underlying9 hi hz0 hz1 hz2 _ _ _ rfl hown s rfl ?c3 ?c4 ?c5 ?_)
  case c3 => unfold maxLen; omega
  case c4 => omega
  case c5 => have := hb1.size; omega
  intro v' w2 hown' hgrow _
  have hlt : b < w1.heap.size := by
    rcases Nat.lt_or_ge b w1.heap.size with h' | h'
    · exact h'
    · simp [Array.getElem?_eq_none h'] at hbk
  have hb2 : w2.heap[b]? = some (.cells #[.pointer (some ⟨b, 0, none⟩), v] 75 (0, 0)) := by
    rw [hgrow.block b hlt (fun e => hne e.symm)]
    exact hbk
  have d0 : w2.cell? ⟨b, 0, none⟩ = some (.pointer (some ⟨b, 0, none⟩)) := by rw [Lib.cell_of_heap hb2]; rfl
  have d1 : w2.cell? ⟨b, 1, none⟩ = some v := by rw [Lib.cell_of_heap hb2]; rfl
  have f1 : w2.frozen? ⟨b, 1, none⟩ = false := Lib.frozen_of_heap hb2 1
  obtain ⟨ao, n', cap, rfl⟩ : ∃ ao n' cap, v' = .slice ao n' cap := by
    rcases hown'.2 with ⟨hv, _⟩ | ⟨g, cap, cur, fz, hv, _⟩
    · exact ⟨_, _, _, hv⟩
    · exact ⟨_, _, _, hv⟩
  go_wp2
  go_ret2
  refine ⟨rfl, ?_, ?_, (hk1.grown hgrow (Lib.ownsRowF_kind hown)).setCell ⟨b, 1, none⟩ rfl _⟩
  · exact Or.inr (Lib.BuilderAtF.put (T := 75) (e := 5) hB hb2 (bs' := bs ++ Lib.strCells s) (by simpa [Lib.strCells_length] using hown') (by decide))
  · exact (hb1.grown hgrow (by have := hb1.size; omega) (fun k hk => (hown.lt k hk).1)).setCell (p := ⟨b, 1, none⟩) hB _

/-- A builder of the call's own, in block b, that holds the bytes acc. -/
def Bld (B b : Nat) (acc : List UInt8) (w : World) : Prop := Lib.IsBuilderF 75 5 B b (Lib.byteCells acc) w

theorem Bld.at {B b : Nat} {acc : List UInt8} {w : World} (h : Bld B b acc w) : ∃ p, Lib.BuilderAtF 75 5 B b p (Lib.byteCells acc) w := by
  rcases h with h | h
  · exact ⟨_, h⟩
  · exact ⟨_, h⟩
theorem Bld.le {B b : Nat} {acc : List UInt8} {w : World} (h : Bld B b acc w) : B ≤ b := by obtain ⟨p, h⟩ := h.at; exact h.1
theorem Bld.lt {B b : Nat} {acc : List UInt8} {w : World} (h : Bld B b acc w) : b < w.heap.size := by obtain ⟨p, h⟩ := h.at; exact h.lt
theorem Bld.alloc {B b : Nat} {acc : List UInt8} {w : World} (h : Bld B b acc w) (o : Obj) : Bld B b acc (w.alloc o) := by
  rcases h with h | h
  · exact Or.inl (h.alloc o)
  · exact Or.inr (h.alloc o)
theorem Bld.drew {B b : Nat} {acc : List UInt8} {w : World} (h : Bld B b acc w) : Bld B b acc w.drew := by
  rcases h with h | h
  · exact Or.inl h.drew
  · exact Or.inr h.drew
theorem Bld.fresh (w : World) : Bld w.heap.size w.heap.size [] (w.alloc (.cells #[.pointer none, .slice none 0 0] 75)) :=
  Lib.IsBuilderF.of (Lib.fresh_isBuilder 75 5 w)
theorem Bld.mono {B B' b : Nat} {acc : List UInt8} {w : World} (h : Bld B b acc w) (hb : B' ≤ B) : Bld B' b acc w := by
  have key : ∀ p, Lib.BuilderAtF 75 5 B b p (Lib.byteCells acc) w → Lib.BuilderAtF 75 5 B' b p (Lib.byteCells acc) w := by
    rintro p ⟨h1, v, h2, ⟨h3, h4⟩, h5⟩
    refine ⟨by omega, v, h2, ⟨h3, ?_⟩, h5⟩
    rcases h4 with h4 | ⟨g, cap, cur, fz, q1, q2, q3⟩
    · exact Or.inl h4
    · exact Or.inr ⟨g, cap, cur, fz, q1, by omega, q3⟩
  rcases h with h | h
  · exact Or.inl (key _ h)
  · exact Or.inr (key _ h)
theorem Bld.ne {B b k : Nat} {acc : List UInt8} {w : World} (h : Bld B b acc w) {cs : Array Value} {T : TypeId} {fr : Nat × Nat} (hk : w.heap[k]? = some (.cells cs T fr)) (hT : T ≠ 75) : k ≠ b := by
  obtain ⟨p, _, v, hb, _⟩ := h.at
  rintro rfl
  rw [hk] at hb
  simp only [Option.some.injEq, Obj.cells.injEq] at hb
  exact hT hb.2.1
/-- A block of another type stands when the builder is written to. -/
theorem Bld.block {B b k : Nat} {acc : List UInt8} {w w' : World} (h : Bld B b acc w) (ho : Lib.OthersKept 5 (some b) w w') {cs : Array Value} {T : TypeId} {fr : Nat × Nat} (hk : w.heap[k]? = some (.cells cs T fr))
    (hT : T ≠ 75) (he : T ≠ 5) : w'.heap[k]? = some (.cells cs T fr) :=
  ho k _ hk (fun e => h.ne hk hT (Option.some.inj e)) (fun c fz e => he (by injection e))
/-- A row of another type, too. -/
theorem Bld.row {B b base e sz n : Nat} {v : Value} {xs : List Value} {acc : List UInt8} {w w' : World} (h : Bld B b acc w) (ho : Lib.OthersKept 5 (some b) w w') (hr : w.ownsRow base e sz v n xs)
    (hT : e ≠ 75) (he : e ≠ 5) : w'.ownsRow base e sz v n xs := by
  obtain ⟨h1, h2⟩ := hr
  refine ⟨h1, ?_⟩
  rcases h2 with h2 | ⟨g, cap, cur, q1, q2, q3, q4⟩
  · exact Or.inl h2
  · exact Or.inr ⟨g, cap, cur, q1, q2, h.block ho q3 hT he, q4⟩
/-- The builder stands when a row of another type is written to. -/
theorem Bld.grown {B b base e sz n : Nat} {v : Value} {xs : List Value} {acc : List UInt8} {w w' : World} (h : Bld B b acc w) (hr : w.ownsRow base e sz v n xs) (hg : w.grownBy w' v.ownBlock)
    (hT : e ≠ 75) (he : e ≠ 5) : Bld B b acc w' := by
  have hrow : ∀ k, v.ownBlock = some k → ∃ cs, w.heap[k]? = some (.cells cs e (0, 0)) := by
    intro k hk
    rcases hr.2 with ⟨rfl, _⟩ | ⟨g, cap, cur, rfl, _, hgg, _⟩
    · simp [Value.ownBlock] at hk
    · simp [Value.ownBlock] at hk; subst hk; exact ⟨_, hgg⟩
  have key : ∀ p, Lib.BuilderAtF 75 5 B b p (Lib.byteCells acc) w → Lib.BuilderAtF 75 5 B b p (Lib.byteCells acc) w' := by
    rintro p ⟨h1, u, h2, h3, h5⟩
    have hlt : b < w.heap.size := h.lt
    refine ⟨h1, u, ?_, h3.kept hg ?_, h5⟩
    · rw [hg.block b hlt (fun q => ?_)]
      · exact h2
      · obtain ⟨cs, hcs⟩ := hrow b q.symm
        exact h.ne hcs hT rfl
    · rcases h3.2 with ⟨rfl, _⟩ | ⟨g, cap, cur, fz, rfl, _, hgg, _⟩
      · exact Or.inl rfl
      · refine Or.inr (fun q => ?_)
        obtain ⟨cs, hcs⟩ := hrow g (by rw [← q]; rfl)
        rw [hcs] at hgg
        simp only [Option.some.injEq, Obj.cells.injEq] at hgg
        exact he hgg.2.1
  rcases h with h | h
  · exact Or.inl (key _ h)
  · exact Or.inr (key _ h)

theorem write_any (B b : Nat) (acc : List UInt8) (s : ByteArray) (w : World) (h : Bld B b acc w) (hlen : acc.length + s.size ≤ 140737488355328) (hBw : B ≤ w.heap.size) :
    Calls Tryz.prog 41 #[.pointer (some ⟨b, 0, none⟩), .string s] w fun e w' => e = .returned (.tuple #[.int .i64 s.size, .nilIface]) ∧ Bld B b (acc ++ s.data.toList) w' ∧ Below B w w' ∧ Lib.OthersKept 5 (some b) w w' := by
  have := writeString B b (Lib.byteCells acc) s w h (by rw [Lib.byteCells_length]; exact hlen) hBw
  rw [Lib.strCells_eq, ← Lib.byteCells_append] at this
  exact this
theorem bstring_any (B b : Nat) (acc : List UInt8) (w : World) (h : Bld B b acc w) (hBw : B ≤ w.heap.size) :
    Calls Tryz.prog 24 #[.pointer (some ⟨b, 0, none⟩)] w fun e w' => e = .returned (.string ⟨acc.toArray⟩) ∧ Bld B b acc w' ∧ Below B w w' ∧ Lib.OthersKept 5 (some b) w w' :=
  Tryz.Builder_String_any_k B b acc w h hBw
end Go.Proofs.YtdjkibbnkklajaaGreatDoor

namespace Go.Proofs.YtdjkibbnkklajaaGreatDoor
open Go.RowKit Go

mutual
def PE.size : PE → Nat
  | .mk _ _ _ _ _ _ kids _ => 1 + sizeE kids
def sizeE : List PE → Nat
  | [] => 0
  | e :: l => e.size + sizeE l
end
theorem sizeE_append : ∀ (a b : List PE), sizeE (a ++ b) = sizeE a + sizeE b
  | [], b => by simp [sizeE]
  | e :: a, b => by rw [List.cons_append, sizeE, sizeE, sizeE_append a b, Nat.add_assoc]
mutual
theorem PE.ats_len : ∀ e : PE, e.ats.length = e.size
  | .mk _ _ _ _ _ _ kids _ => by rw [PE.ats, PE.size, List.length_cons, atsE_len kids, Nat.add_comm]
theorem atsE_len : ∀ l : List PE, (atsE l).length = sizeE l
  | [] => rfl
  | e :: l => by rw [atsE, sizeE, List.length_append, PE.ats_len e, atsE_len l]
end
theorem sizeE_mem : ∀ (l : List PE) (e : PE), e ∈ l → e.size ≤ sizeE l
  | x :: l, e, h => by
    rw [sizeE]
    rcases List.mem_cons.1 h with rfl | h
    · omega
    · have := sizeE_mem l e h
      omega
theorem PE.size_def (e : PE) : e.size = 1 + sizeE e.kids := by cases e; rfl
theorem PE.ats_def (e : PE) : e.ats = (e.at_ : Int) :: atsE e.kids := by cases e; rfl
theorem atsE_append : ∀ (a b : List PE), atsE (a ++ b) = atsE a ++ atsE b
  | [], b => by simp [atsE]
  | e :: a, b => by rw [List.cons_append, atsE, atsE, atsE_append a b, List.append_assoc]
theorem sizeE_few : ∀ l : List PE, l.length ≤ sizeE l
  | [] => Nat.zero_le _
  | e :: l => by
    have := sizeE_few l
    rw [sizeE, e.size_def, List.length_cons]
    omega
theorem kids_sizeOf (e : PE) : ∀ x ∈ e.kids, SizeOf.sizeOf x < SizeOf.sizeOf e := by
  intro x hx
  cases e with
  | mk op name module num txt yes kids at_ =>
    have := List.sizeOf_lt_of_mem hx
    simp only [PE.mk.sizeOf_spec, PE.kids] at this ⊢
    omega

theorem EAt.slX {P : Nat → Prop} {w : World} {m k : Value} {x : PE} (h : EAt XA P w m k x) : ∃ am wn cm ae ce, m = .slice am wn cm ∧ k = .slice ae x.kids.length ce := by
  obtain ⟨hnum, ae, ce, rfl, _, _⟩ := h.form
  obtain ⟨ws, hws, _⟩ := (hnum : NumAt _ _ _ _)
  obtain ⟨am, cm, rfl⟩ := hws.form
  exact ⟨am, _, cm, ae, ce, rfl, rfl⟩

set_option maxHeartbeats 1000000 in
set_option maxRecDepth 100000 in
theorem size_any : ∀ (n : Nat) (e : PE), SizeOf.sizeOf e < n → ∀ (B : Nat) (am : Option Addr) (wn cm : Nat) (ae : Option Addr) (ce : Nat) (w : World), EAt XA (fun b => b < B) w (.slice am wn cm) (.slice ae e.kids.length ce) e → B ≤ w.heap.size → e.size ≤ 1099511627776 →
    Calls Tryz.prog 15 #[.agg #[.int .i64 e.op, .string ⟨e.name.toArray⟩, .string ⟨e.module.toArray⟩, .bool (decide (e.num < 0)), .slice am wn cm, .bool e.yes, .slice ae e.kids.length ce, .int .i64 e.at_]] w fun r w' => r = .returned (.int .i64 e.size) ∧ Below w.heap.size w w'
  | 0, e, hs, _, _, _, _, _, _, _, _, _, _ => absurd hs (by omega)
  | n + 1, e, hs, B, am, wn, cm, ae, ce, w, h, hB, hz => by
    have hsub := kids_sizeOf e
    have hdef := e.size_def
    obtain ⟨hnum, ae', ce', hv, hcap, hf⟩ := h.form
    simp only [Value.slice.injEq] at hv
    obtain ⟨rfl, -, rfl⟩ := hv
    have hfew := sizeE_few e.kids
    have IH := Lib.hid (fun (x : PE) (hx : x ∈ e.kids) => size_any n x (by have := hsub x hx; omega))
    have HF := Lib.hid hf
    have HD := Lib.hid hdef
    have hkl : e.kids.length ≤ 1099511627776 := by omega
    have hzk : sizeE e.kids + 1 ≤ 1099511627776 := by omega
    clear h hnum hf hsub hs hdef hz
    go_enter Tryz.func15, Tryz.ntmps15
    go_wp2
    generalize hkk : e.kids = ks at *
    go_loopw [3, 9] (fun nv q wr => ∃ k : Nat, k ≤ ks.length ∧ q = .int .i64 k ∧ nv = .int .i64 ((1 + sizeE (ks.take k) : Nat) : Int) ∧ Below w.heap.size w wr) (fun _ q _ => ks.length - (intOf q).toNat)
    case atStart => exact ⟨0, Nat.zero_le _, rfl, rfl, (Below.refl _ _).alloc (Nat.le_refl _) _⟩
    case round =>
      obtain ⟨k, hk, rfl, rfl, hbl⟩ := hrel
      have hw := hbl.size
      by_cases hlt : k < ks.length
      · obtain ⟨b, off, rfl, hbB, hbw, hkid⟩ := HF.out (by omega)
        obtain ⟨m, kv, hE, hc⟩ := hkid k hlt
        have hmem : ks[k] ∈ ks := List.getElem_mem hlt
        have hsn : ks.take (k + 1) = ks.take k ++ [ks[k]] := List.take_succ_eq_append_getElem hlt
        have hle := sizeE_mem ks _ hmem
        have hsz : sizeE (ks.take (k + 1)) = sizeE (ks.take k) + ks[k].size := by rw [hsn, sizeE_append]; simp [sizeE]
        have htl : sizeE (ks.take (k + 1)) ≤ sizeE ks := by
          have := sizeE_append (ks.take (k + 1)) (ks.drop (k + 1))
          rw [List.take_append_drop] at this
          omega
        obtain ⟨am1, wn1, cm1, ae1, ce1, rfl, rfl⟩ := hE.slX
        have IHx := IH.out _ hmem B am1 wn1 cm1 ae1 ce1
        generalize ks[k] = x at hE hc hsz hle IHx
        have y0 := (hbl.cell (p := ⟨b, off + k * 8, none⟩) hbw).trans (hc 0 _ rfl)
        have y1 := (hbl.cell (p := ⟨b, off + k * 8 + 1, none⟩) hbw).trans (hc 1 _ rfl)
        have y2 := (hbl.cell (p := ⟨b, off + k * 8 + 2, none⟩) hbw).trans (hc 2 _ rfl)
        have y3 := (hbl.cell (p := ⟨b, off + k * 8 + 3, none⟩) hbw).trans (hc 3 _ rfl)
        have y4 := (hbl.cell (p := ⟨b, off + k * 8 + 4, none⟩) hbw).trans (hc 4 _ rfl)
        have y5 := (hbl.cell (p := ⟨b, off + k * 8 + 5, none⟩) hbw).trans (hc 5 _ rfl)
        have y6 := (hbl.cell (p := ⟨b, off + k * 8 + 6, none⟩) hbw).trans (hc 6 _ rfl)
        have y7 := (hbl.cell (p := ⟨b, off + k * 8 + 7, none⟩) hbw).trans (hc 7 _ rfl)
        simp only [strV] at y1 y2
        have hA : ∀ o, EAt XA (fun b => b < B) (wr.alloc o) (.slice am1 wn1 cm1) (.slice ae1 x.kids.length ce1) x := fun o => hE.frame (Alk.ofB (hbl.alloc hw o) (fun b hb => by omega))
        have hbA : ∀ o, Below w.heap.size w (wr.alloc o) := fun o => hbl.alloc hw o
        have HI := Lib.hid (fun o => IHx (wr.alloc o) (hA o) (by simp; omega) (by omega))
        have HS := Lib.hid hsz
        have hI2 : (1 : Int) + (sizeE (ks.take k) : Int) + (x.size : Int) ≤ 1099511627776 := by omega
        clear hkid hc hE IHx hsn hsz hA htl
        have hkI : (k : Int) < (ks.length : Int) := by omega
        go_wp2_with (go_at_call 15; refine (HI.out _).mono ?_; rintro r w2 ⟨rfl, hb2⟩)
        exact ⟨⟨k + 1, by omega, by go_num, by rw [HS.out]; go_num, (hbA _).trans (hb2.mono (hbA _).size)⟩, by simp [intOf]; omega⟩
      · obtain rfl : k = ks.length := by omega
        have hkI : decide ((ks.length : Int) < (ks.length : Int)) = false := decide_eq_false (by omega)
        go_wp2
        go_ret
        refine ⟨?_, hbl⟩
        rw [HD.out, List.take_length]; try rfl
end Go.Proofs.YtdjkibbnkklajaaGreatDoor

namespace Go.Proofs.YtdjkibbnkklajaaGreatDoor
open Go.RowKit Go

theorem Tryz.infoIntA : (Tryz.prog.info? 3).map (fun i => (i.zero, i.size, i.bytes)) = some (some (.int .i64 0), 1, 8) := by kernel_rfl

/-- A row of ints of the call's own is handed back; it is not empty. -/
def RowPost (l : List Int) (w : World) (r : Ending) (w' : World) : Prop :=
  ∃ g cap, r = .returned (.slice (some ⟨g, 0, none⟩) l.length cap) ∧ w'.ownsRow w.heap.size 3 1 (.slice (some ⟨g, 0, none⟩) l.length cap) l.length (l.map (Value.int .i64)) ∧ Below w.heap.size w w'

theorem row_cell {w : World} {B e n cap : Nat} {g : Nat} {l : List Int} (h : w.ownsRow B e 1 (.slice (some ⟨g, 0, none⟩) n cap) n (l.map (Value.int .i64))) {j : Nat} {u : Value} (hj : (l.map (Value.int .i64))[j]? = some u) : w.cell? (Addr.add ⟨g, 0, none⟩ j) = some u := by
  obtain ⟨ao, c, hv, _, hl, hc⟩ := Sl.ofOwns h
  obtain ⟨h1, h2⟩ := List.getElem?_eq_some_iff.1 hj
  obtain ⟨b, o, ha, _, hcell⟩ := hc (by omega)
  simp only [Value.slice.injEq] at hv
  rw [ha] at hv
  simp only [Option.some.injEq, Addr.mk.injEq] at hv
  obtain ⟨⟨rfl, rfl, -⟩, -, -⟩ := hv
  rw [← h2, show Addr.add ⟨g, 0, none⟩ j = ⟨g, 0 + j, none⟩ by unfold Addr.add; split <;> simp_all]
  exact hcell j h1
theorem row_form {W : World} {base n : Nat} {e : TypeId} {size : Nat} {v : Value} {xs : List Value} (h : W.ownsRow base e size v n xs) (h0 : 0 < n) : ∃ g cap, v = .slice (some ⟨g, 0, none⟩) n cap := by
  rcases h.2 with ⟨_, h1⟩ | ⟨g, cap, _, rfl, _⟩
  · omega
  · exact ⟨g, cap, rfl⟩
theorem take_succ_at {α : Type} {l : List α} {k : Nat} (h : k < l.length) : l.take (k + 1) = l.take k ++ [l[k]] := List.take_succ_eq_append_getElem h

set_option maxHeartbeats 1000000 in
set_option maxRecDepth 100000 in
theorem ats_any : ∀ (n : Nat) (e : PE), SizeOf.sizeOf e < n → ∀ (B : Nat) (am : Option Addr) (wn cm : Nat) (ae : Option Addr) (ce : Nat) (w : World), EAt XA (fun b => b < B) w (.slice am wn cm) (.slice ae e.kids.length ce) e → B ≤ w.heap.size → e.size ≤ 1099511627776 →
    Calls Tryz.prog 13 #[.agg #[.int .i64 e.op, .string ⟨e.name.toArray⟩, .string ⟨e.module.toArray⟩, .bool (decide (e.num < 0)), .slice am wn cm, .bool e.yes, .slice ae e.kids.length ce, .int .i64 e.at_]] w (RowPost e.ats w)
  | 0, e, hs, _, _, _, _, _, _, _, _, _, _ => absurd hs (by omega)
  | n + 1, e, hs, B, am, wn, cm, ae, ce, w, h, hB, hz => by
    obtain ⟨i0, hi, hz0, hz1, hz2⟩ := info_parts Tryz.infoIntA
    have hsub := kids_sizeOf e
    have hdef := e.size_def
    have hats := e.ats_def
    obtain ⟨hnum, ae', ce', hv, hcap, hf⟩ := h.form
    simp only [Value.slice.injEq] at hv
    obtain ⟨rfl, -, rfl⟩ := hv
    have hfew := sizeE_few e.kids
    have IH := Lib.hid (fun (x : PE) (hx : x ∈ e.kids) => ats_any n x (by have := hsub x hx; omega))
    have HF := Lib.hid hf
    have HA := Lib.hid hats
    have hkl : e.kids.length ≤ 1099511627776 := by omega
    have hzk : sizeE e.kids + 1 ≤ 1099511627776 := by omega
    clear h hnum hf hsub hs hdef hz hats
    go_enter Tryz.func13, Tryz.ntmps13
    go_wp2
    have e1 := heap_alloc_new (w.alloc (.cells #[.int .i64 e.op, .string ⟨e.name.toArray⟩, .string ⟨e.module.toArray⟩, .bool (decide (e.num < 0)), .slice am wn cm, .bool e.yes, .slice ae e.kids.length ce, .int .i64 e.at_] 37)) (.cells #[.int .i64 e.at_] 3)
    have hb1 : Below w.heap.size w ((w.alloc (.cells #[.int .i64 e.op, .string ⟨e.name.toArray⟩, .string ⟨e.module.toArray⟩, .bool (decide (e.num < 0)), .slice am wn cm, .bool e.yes, .slice ae e.kids.length ce, .int .i64 e.at_] 37)).alloc (.cells #[.int .i64 e.at_] 3)) := ((Below.refl _ w).alloc (Nat.le_refl _) _).alloc (by simp) _
    rw [World.size_alloc] at e1
    generalize (w.alloc _).alloc _ = W at e1 hb1 ⊢
    generalize hkk : e.kids = ks at *
    go_loopw [3, 12] (fun v q wr => ∃ (k : Nat) (g cap : Nat) (l : List Int), k ≤ ks.length ∧ q = .int .i64 k ∧ l = (e.at_ : Int) :: atsE (ks.take k) ∧ v = .slice (some ⟨g, 0, none⟩) l.length cap ∧ wr.ownsRow w.heap.size 3 1 (.slice (some ⟨g, 0, none⟩) l.length cap) l.length (l.map (Value.int .i64)) ∧ Below w.heap.size w wr) (fun _ q _ => ks.length - (intOf q).toNat)
    case atStart => exact ⟨0, w.heap.size + 1, 1, [(e.at_ : Int)], Nat.zero_le _, rfl, rfl, rfl, ⟨rfl, .inr ⟨_, 1, #[.int .i64 e.at_], rfl, by omega, e1, Nat.le_refl _, by decide, rfl, rfl⟩⟩, hb1⟩
    case round =>
      obtain ⟨k, g, cap, l, hk, rfl, hl, rfl, hrow, hbl⟩ := hrel
      have hw := hbl.size
      by_cases hlt : k < ks.length
      · obtain ⟨b, off, rfl, hbB, hbw, hkid⟩ := HF.out (by omega)
        obtain ⟨m, kv, hE, hc⟩ := hkid k hlt
        have hmem : ks[k] ∈ ks := List.getElem_mem hlt
        have hle := sizeE_mem ks _ hmem
        have hsz : l ++ ks[k].ats = (e.at_ : Int) :: atsE (ks.take (k + 1)) := by rw [take_succ_at hlt, atsE_append, hl, List.cons_append]; simp [atsE]
        have htl : l.length + ks[k].size ≤ 1 + sizeE ks := by
          have h1 := congrArg List.length hsz
          rw [List.length_append, PE.ats_len, List.length_cons, atsE_len] at h1
          have := sizeE_append (ks.take (k + 1)) (ks.drop (k + 1))
          rw [List.take_append_drop] at this
          omega
        obtain ⟨am1, wn1, cm1, ae1, ce1, rfl, rfl⟩ := hE.slX
        have IHx := IH.out _ hmem B am1 wn1 cm1 ae1 ce1
        generalize ks[k] = x at hE hc hsz hle IHx htl
        have y0 := (hbl.cell (p := ⟨b, off + k * 8, none⟩) hbw).trans (hc 0 _ rfl)
        have y1 := (hbl.cell (p := ⟨b, off + k * 8 + 1, none⟩) hbw).trans (hc 1 _ rfl)
        have y2 := (hbl.cell (p := ⟨b, off + k * 8 + 2, none⟩) hbw).trans (hc 2 _ rfl)
        have y3 := (hbl.cell (p := ⟨b, off + k * 8 + 3, none⟩) hbw).trans (hc 3 _ rfl)
        have y4 := (hbl.cell (p := ⟨b, off + k * 8 + 4, none⟩) hbw).trans (hc 4 _ rfl)
        have y5 := (hbl.cell (p := ⟨b, off + k * 8 + 5, none⟩) hbw).trans (hc 5 _ rfl)
        have y6 := (hbl.cell (p := ⟨b, off + k * 8 + 6, none⟩) hbw).trans (hc 6 _ rfl)
        have y7 := (hbl.cell (p := ⟨b, off + k * 8 + 7, none⟩) hbw).trans (hc 7 _ rfl)
        simp only [strV] at y1 y2
        have hA : ∀ o, EAt XA (fun b => b < B) (wr.alloc o) (.slice am1 wn1 cm1) (.slice ae1 x.kids.length ce1) x := fun o => hE.frame (Alk.ofB (hbl.alloc hw o) (fun b hb => by omega))
        have hbA : ∀ o, Below w.heap.size w (wr.alloc o) := fun o => hbl.alloc hw o
        have HI := Lib.hid (fun o => IHx (wr.alloc o) (hA o) (by simp; omega) (by omega))
        have hxl := x.ats_len
        have HS := Lib.hid hsz
        have HX := Lib.hid hxl
        have hxb : l.length + x.ats.length ≤ 1099511627776 := by omega
        have hl0 : 0 < l.length := by rw [hl]; simp
        clear hkid hc hE IHx hsz hA hl hxl
        have hkI : (k : Int) < (ks.length : Int) := by omega
        go_wp2_with (first | (go_at_call 13; refine (HI.out _).mono ?_; rintro r w2 ⟨g2, c2, rfl, hrow2, hb2⟩; have hown2 := own_below (hrow.alloc _) hb2; have hzz := hb2.size; rw [World.size_alloc] at hzz) | (at_builtin; refine wpList_append_own_at _ rfl _ _ 49 rfl w.heap.size 3 i0 (.int .i64 0) 1 8 Tryz.underlying49 hi hz0 hz1 hz2 rfl (by decide) _ _ _ rfl hown2 ⟨g2, 0, none⟩ x.ats.length c2 (x.ats.map (Value.int .i64)) rfl (by simp) (fun j u hj => row_cell hrow2 hj) (by simp [Value.oneCell']) (by unfold maxLen; omega) (by omega) (by omega) ?_; intro v' w3 hown3 hgrow _ hob'))
        have hgrow' : w2.grownBy w3 (Value.slice (some ⟨g, 0, none⟩) l.length cap).ownBlock := hgrow
        obtain ⟨g3, c3, rfl⟩ := row_form hown3 (by omega)
        refine ⟨⟨k + 1, g3, c3, l ++ x.ats, by omega, by go_num, HS.out, ?_, ?_, ?_⟩, by simp [intOf]; omega⟩
        · rw [List.length_append]
        · rw [List.length_append, List.map_append]
          exact hown3
        · exact ((hbA _).trans (hb2.mono (hbA _).size)).grown hgrow' (by omega) (fun q hq => (hown2.lt q hq).1)
      · obtain rfl : k = ks.length := by omega
        have hkI : decide ((ks.length : Int) < (ks.length : Int)) = false := decide_eq_false (by omega)
        rw [List.take_length, ← HA.out] at hl
        subst hl
        go_wp2
        go_ret
        exact ⟨g, cap, rfl, hrow, hbl⟩
end Go.Proofs.YtdjkibbnkklajaaGreatDoor

namespace Go.Proofs.YtdjkibbnkklajaaGreatDoor
open Go.RowKit

/-- The text of tokens. -/
def wholeF : List Tok → List UInt8
  | [] => []
  | t :: l => t.lead ++ t.text ++ wholeF l

theorem wholeF_len : ∀ (l : List Tok), (wholeF l).length = tokAt l l.length
  | [] => rfl
  | t :: l => by rw [wholeF, List.length_append, List.length_append, wholeF_len l, List.length_cons, tokAt_cons, tokLen]

theorem wholeF_snoc : ∀ (l : List Tok) (t : Tok), wholeF (l ++ [t]) = wholeF l ++ (t.lead ++ t.text)
  | [], t => by simp [wholeF]
  | x :: l, t => by simp only [List.cons_append, wholeF, wholeF_snoc l t, List.append_assoc]

theorem Laid.whole_take {T : List UInt8} {p : Nat} {l : List Tok} (h : Laid T p l) : ∀ k, k ≤ l.length → wholeF (l.take k) = T.take (tokAt l k)
  | 0, _ => by simp [wholeF, tokAt_zero]
  | k + 1, hk => by
    have hl : k < l.length := hk
    have hle := h.inside (k + 1) hk
    rw [tokAt_succ l k hl, tokLen] at hle
    rw [List.take_succ_eq_append_getElem hl, wholeF_snoc, h.whole_take k (by omega), tokAt_succ l k hl, tokLen]
    have h1 := h.lead k hl
    have h2 := h.text k hl
    generalize tokAt l k = a at h1 h2 hle ⊢
    rw [← Nat.add_assoc, List.take_add (i := a + l[k].lead.length), List.take_add (i := a), h1, h2, List.append_assoc]

theorem Laid.whole_eq {T : List UInt8} {p : Nat} {l : List Tok} (h : Laid T p l) : wholeF l = T := by
  have := h.whole_take l.length (Nat.le_refl _)
  rw [List.take_length, h.whole, List.take_length] at this
  exact this

theorem wholeF_take_len : ∀ (l : List Tok) (k : Nat), k ≤ l.length → (wholeF (l.take k)).length = tokAt l k
  | l, 0, _ => by simp [wholeF, tokAt_zero]
  | [], k + 1, h => absurd h (by simp)
  | t :: l, k + 1, h => by
    rw [List.take_succ_cons, wholeF, List.length_append, List.length_append, wholeF_take_len l k (by simpa using h), tokAt_cons, tokLen]

theorem tokAt_mono (l : List Tok) : ∀ (i j : Nat), i ≤ j → j ≤ l.length → tokAt l i ≤ tokAt l j := by
  intro i j h hj
  induction j with
  | zero => exact Nat.le_of_eq (by rw [Nat.le_zero.1 h])
  | succ j ih =>
    rcases Nat.lt_or_ge i (j + 1) with h' | h'
    · have := ih (by omega) (by omega)
      rw [tokAt_succ l j (by omega)]
      omega
    · obtain rfl : i = j + 1 := by omega
      exact Nat.le_refl _

theorem bytes_of (y : List UInt8) : ∃ Y : ByteArray, Y.data.toList = y ∧ ByteArray.mk y.toArray = Y := ⟨⟨y.toArray⟩, rfl, rfl⟩

set_option maxHeartbeats 1000000 in
set_option maxRecDepth 100000 in
theorem whole_any (v : Value) (l : List Tok) (w : World) (hl : l.length ≤ 1099511627776) (hn : tokAt l l.length ≤ 1099511627776) (hv : Rec w.heap.size w v 4 tokCells l) :
    Calls Tryz.prog 59 #[v] w fun e w' => e = .returned (.string ⟨(wholeF l).toArray⟩) ∧ Below w.heap.size w w' := by
  obtain ⟨ao, cap, rfl, hcap, hf⟩ := hv.form (fun _ => rfl)
  clear hv
  go_enter Tryz.func59, Tryz.ntmps59
  go_wp2
  go_loopw [8] (fun i wr => ∃ k : Nat, k ≤ l.length ∧ i = .int .i64 k ∧ Bld w.heap.size w.heap.size (wholeF (l.take k)) wr ∧ Below w.heap.size w wr) (fun i _ => l.length - (intOf i).toNat)
  case atStart => exact ⟨0, Nat.zero_le _, rfl, Bld.fresh w, (Below.refl _ _).alloc (Nat.le_refl _) _⟩
  case round =>
    obtain ⟨k, hk, rfl, hbd, hbl⟩ := hrel
    have hz := hbl.size
    by_cases hlt : k < l.length
    · obtain ⟨b, off, rfl, hb, hcell⟩ := hf (by omega)
      have hx0 := (hbl.cell (p := ⟨b, off + k * 4, none⟩) hb).trans (hcell k 0 _ hlt rfl)
      have hx1 := (hbl.cell (p := ⟨b, off + k * 4 + 1, none⟩) hb).trans (hcell k 1 _ hlt rfl)
      have hx2 := (hbl.cell (p := ⟨b, off + k * 4 + 2, none⟩) hb).trans (hcell k 2 _ hlt rfl)
      have hx3 := (hbl.cell (p := ⟨b, off + k * 4 + 3, none⟩) hb).trans (hcell k 3 _ hlt rfl)
      have hmo := tokAt_mono l (k + 1) l.length hlt (Nat.le_refl _)
      rw [tokAt_succ l k hlt, tokLen, ← wholeF_take_len l k hk] at hmo
      have hsn : wholeF (l.take (k + 1)) = wholeF (l.take k) ++ (l[k].lead ++ l[k].text) := by rw [List.take_succ_eq_append_getElem hlt, wholeF_snoc]
      generalize l[k] = t at hx0 hx1 hx2 hx3 hmo hsn
      obtain ⟨c, x, y, q⟩ := t
      simp only at hx0 hx1 hx2 hx3 hmo hsn
      obtain ⟨X, rfl, eX⟩ := bytes_of x
      obtain ⟨Y, rfl, eY⟩ := bytes_of y
      rw [eX] at hx1
      rw [eY] at hx2
      simp only [size_list] at hmo
      generalize wholeF (l.take k) = acc at hbd hmo hsn
      have HS := Lib.hid hsn
      have hbd1 := hbd.alloc (.cells #[.int .i64 c, .string X, .string Y, .int .i64 q] 71)
      have hbl1 := hbl.alloc hz (.cells #[.int .i64 c, .string X, .string Y, .int .i64 q] 71)
      clear hcell hf hsn eX eY
      go_wp2_with (go_at_call 41; refine (write_any w.heap.size w.heap.size acc (X ++ Y) _ hbd1 ?c1 ?c2).mono ?_)
      case c1 => simp only [ByteArray.size_append]; omega
      case c2 => simp; omega
      rintro e w2 ⟨rfl, hbd2, hb2, ho2⟩
      rw [append_list, ← HS.out] at hbd2
      clear ho2
      go_wp2
      go_roundw
      case rel => exact ⟨k + 1, by omega, by go_num, hbd2, hbl1.trans hb2⟩
      case measure => simp [intOf]; omega
    · have hkl : k = l.length := by omega
      subst hkl
      rw [List.take_length] at hbd
      clear hf
      go_wp2_with (go_at_call 24; refine (bstring_any w.heap.size w.heap.size _ _ hbd hz).mono ?_; rintro e w4 ⟨rfl, hbd4, hb4, ho4⟩)
      go_ret
      exact ⟨rfl, hbl.trans hb4⟩
end Go.Proofs.YtdjkibbnkklajaaGreatDoor
