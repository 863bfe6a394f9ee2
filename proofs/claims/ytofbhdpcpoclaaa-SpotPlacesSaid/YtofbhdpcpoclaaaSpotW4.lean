/- The walk of spot.Put. -/
import Derived.Test.YtofbhdpcpoclaaaSpotW3
namespace Go.Proofs.Ytofbhdpcpoclaaa
open Go.RowKit

/-- A text with edits put in, from a place on. -/
def putOut (s : List UInt8) : Nat → List Edit → List UInt8
  | last, [] => s.drop last
  | last, e :: r => (s.take e.1.toNat).drop last ++ (e.2.data.toList ++ putOut s e.1.toNat r)
/-- Where they stand then, if pos bytes stand ahead. -/
def putSpans : Nat → Nat → List Edit → List Span
  | _, _, [] => []
  | pos, last, e :: r => (((pos + (e.1.toNat - last) : Nat) : Int), ((pos + (e.1.toNat - last) + e.2.size : Nat) : Int)) :: putSpans (pos + (e.1.toNat - last) + e.2.size) e.1.toNat r

theorem ret_put {a b : List UInt8} {v u : Value} (h : a = b) : Ending.returned (.tuple #[.string ⟨a.toArray⟩, v, u]) = .returned (.tuple #[.string ⟨b.toArray⟩, v, u]) := by rw [h]

theorem cells_two {w : World} {g : Nat} {x y : Value} (h : w.cell? ⟨g, 0, none⟩ = some x) (h' : w.cell? ⟨g, 1, none⟩ = some y) : ∀ j u, [x, y][j]? = some u → w.cell? ((⟨g, 0, none⟩ : Addr).add j) = some u := by
  intro j u hj
  match j, hj with
  | 0, hj => simp at hj; subst hj; simpa [Addr.add] using h
  | 1, hj => simp at hj; subst hj; simpa [Addr.add] using h'

/-- What Put gives where edits are right. -/
def PutOk (s : ByteArray) (l : List Edit) (w : World) (e : Ending) (w' : World) : Prop :=
  ∃ v', e = .returned (.tuple #[.string ⟨(putOut s.data.toList 0 l).toArray⟩, v', .int .i64 0]) ∧ Rec w'.heap.size w' v' 2 spanCells (putSpans 0 0 l) ∧ Below w.heap.size w w'

set_option maxHeartbeats 2000000 in
set_option maxRecDepth 100000 in
theorem put_any (s : ByteArray) (v : Value) (l : List Edit) (w : World)
    (hs : s.size ≤ 1099511627776) (hl : l.length ≤ 1099511627776) (hls : ∀ k, (h : k < l.length) → l[k].2.size ≤ 1099511627776) (hv : Rec w.heap.size w v 2 editCells l) (hW : rightB s.size 0 s.size l = true) :
    Calls Try.prog 9 #[.string s, v] w (PutOk s l w) := by
  obtain ⟨i0, hi, hz0, hz1, hz2⟩ := info_parts Try.infoSpan
  obtain ⟨ao, cap, rfl, hcap, hf⟩ := hv.form (fun _ => rfl)
  have HW := Lib.hid hW
  clear hW
  go_enter Try.func9, Try.ntmps9
  go_wp2_with (go_at_call 21; refine (right_any s _ l _ hs hl hls hv).mono ?_; rintro e w1 ⟨he, hb1⟩; rw [HW.out] at he; subst he)
  have hz1' := hb1.size
  go_loopw [8, 9, 18] (fun sp la i wr => ∃ k : Nat, k ≤ l.length ∧ i = .int .i64 k ∧ ∃ (a : Nat) (c : Int) (acc : List UInt8) (sps : List Span), la = .int .i64 a ∧ Bld w.heap.size w1.heap.size acc wr ∧ Below w.heap.size w wr ∧
      wr.ownsRow w.heap.size 45 2 sp k (sps.flatMap spanCells) ∧ sps.length = k ∧ a ≤ s.size ∧ (acc.length : Int) + s.size = a + c ∧ c ≤ 1099511627776 ∧ rightB s.size a c (l.drop k) = true ∧
      acc ++ putOut s.data.toList a (l.drop k) = putOut s.data.toList 0 l ∧ sps ++ putSpans acc.length a (l.drop k) = putSpans 0 0 l) (fun _ _ i _ => l.length - (intOf i).toNat)
  case atStart => exact ⟨0, Nat.zero_le _, rfl, 0, s.size, [], [], rfl, (Bld.fresh w1).mono hz1', hb1.alloc hz1' _, World.ownsRow_nil _ _ _ _, rfl, by omega, by simp, by omega, HW.out, rfl, rfl⟩
  case round =>
    obtain ⟨k, hk, rfl, a, c, acc, sps, rfl, hbd, hbl, hown, hsl, ha1, ha2, ha3, hR, hO, hS⟩ := hrel
    have hz := hbl.size
    by_cases hlt : k < l.length
    · obtain ⟨b, off, rfl, hb, hcell⟩ := hf (by omega)
      have hx0 := (hbl.cell (p := ⟨b, off + k * 2, none⟩) hb).trans (hcell k 0 _ hlt rfl)
      have hx1 := (hbl.cell (p := ⟨b, off + k * 2 + 1, none⟩) hb).trans (hcell k 1 _ hlt rfl)
      have he1 := hls k hlt
      rw [List.drop_eq_getElem_cons hlt] at hR hO hS
      generalize hE : l[k] = e at hx0 hx1 hR hO hS he1
      obtain ⟨e0, e1⟩ := e
      simp only at hx0 hx1 he1
      obtain ⟨h1, h2, h3, h4, h5⟩ := (rightB_cons _ _ _ _ _).1 hR
      simp only at h1 h2 h3 h4 h5
      obtain ⟨n0, rfl⟩ := Int.eq_ofNat_of_zero_le (by omega : 0 ≤ e0)
      have HR := Lib.hid h5
      have HO := Lib.hid hO
      have HS := Lib.hid hS
      have HL := Lib.hid hsl
      have HA := Lib.hid ha2
      clear hcell hf hR hE h5 hO hS hsl
      go_wp2_with (go_at_call 22; refine (write_any w.heap.size w1.heap.size acc (s.extract a n0) _ (hbd.alloc _) ?c1 ?c2).mono ?_)
      case c1 => rw [ByteArray.size_extract]; omega
      case c2 => simp; omega
      rintro e w2 ⟨rfl, hbd2, hb2, ho2⟩
      have hbx := (hbd.alloc (.cells #[.int .i64 n0, .string e1] 29)).block ho2 (k := wr.heap.size) (heap_alloc_new _ _) (by decide) (by decide)
      have hown2 := (hbd.alloc (.cells #[.int .i64 n0, .string e1] 29)).row ho2 (hown.alloc _) (by decide) (by decide)
      have c0 : w2.cell? ⟨wr.heap.size, 0, none⟩ = some (.int .i64 n0) := by rw [Lib.cell_of_heap hbx]; rfl
      have c1 : w2.cell? ⟨wr.heap.size, 1, none⟩ = some (.string e1) := by rw [Lib.cell_of_heap hbx]; rfl
      have hlen2 : (acc ++ (s.extract a n0).data.toList).length = acc.length + (n0 - a) := by
        rw [List.length_append, extract_list, List.length_drop, List.length_take]; simp; omega
      generalize hq : acc ++ (s.extract a n0).data.toList = acc2 at hbd2 hlen2
      have HQ := Lib.hid hq
      have HL2 := Lib.hid hlen2
      have hzw2 : wr.heap.size + 1 ≤ w2.heap.size := by have := hb2.size; simpa using this
      have hbl2 := (hbl.alloc hz _).trans hb2
      have hbn := own_ne hown2 hbx (by decide)
      have hbd : (acc2.length : Int) ≤ 1099511627776 := by omega
      clear ho2 hq hlen2 hb2
      go_wp2
      have hwr : IntKind.i64.wrap ((acc2.length : Int) + (e1.size : Int)) = (acc2.length : Int) + (e1.size : Int) := IntWalk.i64_in _ (by omega)
      go_region_held3 (fun w' => w'.cell? ⟨wr.heap.size, 1, none⟩ = some (.string e1)) (first | go_keep | (rw [hgrow3.cell_far _ (by simp; omega) hbn]; assumption))
        (first | (go_at_call 23; refine (blen_any w.heap.size w1.heap.size acc2 _ ?_).mono ?_; (exact hbd2.drew); rintro e w' ⟨rfl, rfl⟩) | ((refine step_append_lies _ (by rfl) _ _ _ (by rfl) w.heap.size 45 i0 _ 2 16 Try.underlying24 hi hz0 hz1 hz2 rfl (by omega) u8 k _ (by rfl) ((hown2.alloc _).drew) ⟨w2.heap.size, 0, none⟩ 1 1 [.int .i64 acc2.length, .int .i64 (acc2.length + e1.size)] (by rfl) (by rfl) (World.news_of_block (cs := #[.int .i64 acc2.length, .int .i64 (acc2.length + e1.size)]) (t := 45) (fr := (0, 0)) (heap_alloc_new w2 _)) (by simp [Value.oneCell']) (by omega) (by unfold maxLen; omega) (by omega) (by simp; omega) (w2.heap.size + 1) (by simp) ?_; intro gg cap3 w3 hown3 hgrow3 hat3 hlt3)))
      have hown3' : w3.ownsRow w.heap.size 45 2 (.slice (some ⟨gg, 0, none⟩) (k + 1) cap3) (k + 1) ((sps ++ [((acc2.length : Int), (acc2.length : Int) + e1.size)]).flatMap spanCells) := by
        rw [List.flatMap_append]; exact hown3
      have hox := owns_drew (hown2.alloc (.cells #[.int .i64 acc2.length, .int .i64 (acc2.length + e1.size)] 45))
      have hbx3 := own_block hox hgrow3 (k := wr.heap.size) (cs := #[.int .i64 n0, .string e1]) (T := 29) (fr := (0, 0)) ((Lib.alloc_old w2 _ _ (by omega)).trans hbx) (by decide)
      have hbd3 := ((hbd2.alloc (.cells #[.int .i64 acc2.length, .int .i64 (acc2.length + e1.size)] 45)).drew).grown hox hgrow3 (by decide) (by decide)
      have hbl3 : Below w.heap.size w w3 := ((hbl2.alloc (by omega) (.cells #[.int .i64 acc2.length, .int .i64 (acc2.length + e1.size)] 45)).drew).grown hgrow3 (by simp; omega) (fun q hq => (hown.lt q hq).1)
      have d0 : w3.cell? ⟨wr.heap.size, 0, none⟩ = some (.int .i64 n0) := by rw [Lib.cell_of_heap hbx3]; rfl
      have d1 : w3.cell? ⟨wr.heap.size, 1, none⟩ = some (.string e1) := by rw [Lib.cell_of_heap hbx3]; rfl
      have hz3 := hbl3.size
      clear hgrow3 hox hown hown2 hat3 hwr c0 c1 hbl2 hbx hown3
      go_wp2_with (go_at_call 22; refine (write_any w.heap.size w1.heap.size acc2 e1 _ hbd3 ?d1 ?d2).mono ?_)
      case d1 => omega
      case d2 => omega
      rintro e w4 ⟨rfl, hbd4, hb4, ho4⟩
      have hbx4 := hbd3.block ho4 hbx3 (by decide) (by decide)
      have hown4 := hbd3.row ho4 hown3' (by decide) (by decide)
      have f0 : w4.cell? ⟨wr.heap.size, 0, none⟩ = some (.int .i64 n0) := by rw [Lib.cell_of_heap hbx4]; rfl
      have hbl4 := hbl3.trans hb4
      have hlen4 : (acc2 ++ e1.data.toList).length = acc2.length + e1.size := by
        rw [List.length_append]; congr 1
      generalize hq4 : acc2 ++ e1.data.toList = acc4 at hbd4 hlen4
      have HQ4 := Lib.hid hq4
      have HL4 := Lib.hid hlen4
      clear hbx4 ho4 hb4 hq4 hlen4 hown3'
      go_wp2
      have ha2 := HA.out
      have hl2 := HL2.out
      have hl4 := HL4.out
      go_roundw
      case rel =>
        refine ⟨k + 1, by omega, by go_num, n0, c + e1.size, acc4, _, rfl, hbd4, hbl4, hown4, by rw [List.length_append, HL.out]; rfl, by omega, by omega, by omega, HR.out, ?_, ?_⟩
        · rw [← HO.out, putOut, ← HQ4.out, ← HQ.out, extract_list, List.append_assoc, List.append_assoc]; rfl
        · rw [← HS.out, putSpans, List.append_assoc, hl4, hl2]; simp
      case measure => simp [intOf]; omega
    · have hkl : k = l.length := by omega
      subst hkl
      rw [List.drop_length] at hO hS
      have HO := Lib.hid hO
      have HS := Lib.hid hS
      have HL := Lib.hid hsl
      have HA := Lib.hid ha2
      clear hO hf hR hS hsl
      go_wp2_with (go_at_call 22; refine (write_any w.heap.size w1.heap.size acc (s.extract a s.size) _ hbd ?c1 ?c2).mono ?_)
      case c1 => rw [ByteArray.size_extract]; have := HA.out; omega
      case c2 => omega
      rintro e w2 ⟨rfl, hbd2, hb2, ho2⟩
      have hz2 : w.heap.size ≤ w2.heap.size := by have := hb2.size; omega
      have hown2 := hbd.row ho2 hown (by decide) (by decide)
      generalize hq : acc ++ (s.extract a s.size).data.toList = acc2 at hbd2
      have HQ := Lib.hid hq
      clear hq ho2
      go_wp2_with (go_at_call 24; refine (bstring_any w.heap.size w1.heap.size _ _ hbd2 hz2).mono ?_; rintro e w4 ⟨rfl, hbd4, hb4, ho4⟩)
      have hown4 := hbd2.row ho4 hown2 (by decide) (by decide)
      go_ret3
      refine ⟨_, ret_put (by rw [← HO.out, putOut, ← HQ.out, extract_end]), ?_, (hbl.trans hb2).trans hb4⟩
      have hr : sps = putSpans 0 0 l := by have := HS.out; rwa [putSpans, List.append_nil] at this
      have := Sl.ofOwns hown4
      rw [← HL.out] at this
      rw [← hr]
      exact this
end Go.Proofs.Ytofbhdpcpoclaaa
