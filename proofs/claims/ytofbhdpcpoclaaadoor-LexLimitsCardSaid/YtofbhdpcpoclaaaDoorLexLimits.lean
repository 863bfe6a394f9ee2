/- LexLimits' walk: at any numbers and byte the law returns true. -/
import Derived.Test.YtofbhdpcpoclaaaDoorLexAnchor
import Derived.Test.YtofbhdpcpoclaaaDoorLimPlain
import Derived.RegionTactic
import Derived.BigRegion
namespace Go.Proofs.YtofbhdpcpoclaaaDoor
open Go.RowKit

theorem Tryd.infoByteL : (Tryd.prog.info? 5).map (fun i => (i.zero, i.size, i.bytes)) = some (some (.int .u8 0), 1, 1) := by kernel_rfl

/-- A row of n bytes of which the first i are v, the others 0. -/
def fillB (n i : Nat) (v : Int) : Array Value := (List.replicate i (Value.int .u8 v) ++ List.replicate (n - i) (Value.int .u8 0)).toArray

theorem fill_zero (n : Nat) (v : Int) : fillB n 0 v = madeCells #[.int .u8 0] n := by
  rw [← Array.toList_inj, toList_madeCells_one]
  simp [fillB]

theorem fill_cell {w : World} {g n i : Nat} {v : Int} {T : TypeId} {fr : Nat × Nat} (h : w.heap[g]? = some (.cells (fillB n i v) T fr)) (hi : i < n) : w.cell? ⟨g, i, none⟩ = some (.int .u8 0) := by
  rw [Lib.cell_of_heap h, fillB, List.getElem?_toArray, List.getElem?_append_right (by simp)]
  rw [List.length_replicate, Nat.sub_self, List.getElem?_replicate, if_pos (by omega)]

theorem fill_set {w : World} {g n i : Nat} {v : Int} {T : TypeId} (h : w.heap[g]? = some (.cells (fillB n i v) T (0, 0))) (hi : i < n) : (w.setCell ⟨g, i, none⟩ (.int .u8 v)).heap[g]? = some (.cells (fillB n (i + 1) v) T (0, 0)) := by
  rw [heap_setCell_same w g i _ T _ h]
  congr 2
  rw [← Array.toList_inj]
  apply List.ext_getElem?
  intro j
  simp only [fillB, Array.toList_setIfInBounds, List.getElem?_set, List.length_append, List.length_replicate]
  by_cases hij : i = j
  · subst hij
    rw [if_pos rfl, if_pos (by omega), List.getElem?_append_left (by simp), List.getElem?_replicate, if_pos (by omega)]
  · rw [if_neg hij]
    by_cases hlt : j < i
    · rw [List.getElem?_append_left (by simpa using hlt), List.getElem?_append_left (by simp; omega), List.getElem?_replicate, List.getElem?_replicate, if_pos hlt, if_pos (by omega)]
    · rw [List.getElem?_append_right (by simp; omega), List.getElem?_append_right (by simp; omega)]
      simp only [List.length_replicate, List.getElem?_replicate]
      by_cases hn : j < n
      · rw [if_pos (by omega), if_pos (by omega)]
      · rw [if_neg (by omega), if_neg (by omega)]

theorem fill_conv (n : Nat) (u : UInt8) (w : World) (g : Nat) {fr : Nat × Nat} (h : w.heap[g]? = some (.cells (fillB n n u.toNat) 5 fr)) :
    (convert 32 9 (.slice (some ⟨g, 0, none⟩) n n)).run Tryd.prog w = .ok (.string ⟨(List.replicate n u).toArray⟩) w := by
  have := run_convert_bytes_back (P := Tryd.prog) w 32 9 5 ⟨g, 0, none⟩ n (List.replicate n u) Tryd.underlying32 Tryd.underlying5 Tryd.underlying9 (fun j hj => by
    rw [List.length_replicate] at hj
    have h1 : w.cell? ⟨g, j, none⟩ = some (.int .u8 u.toNat) := by
      rw [Lib.cell_of_heap h, fillB, List.getElem?_toArray, List.getElem?_append_left (by simpa using hj), List.getElem?_replicate, if_pos hj]
    rw [List.getElem_replicate]
    unfold Addr.add
    split
    · rename_i h0; subst h0; exact h1
    · simpa using h1)
  rw [List.length_replicate] at this
  exact this

theorem make_fill (n : Nat) (hn : n ≤ 1000000) (w : World) : (Instr.makeSlice 32 (.int .i64 n) (.int .i64 n)).run Tryd.prog w = .ok (.slice (some ⟨w.heap.size, 0, none⟩) n n) (w.alloc (.cells (fillB n 0 0) 5)) := by
  obtain ⟨i0, hi, hz0, hz1, hz2⟩ := info_parts Tryd.infoByteL
  have := run_make w 32 5 i0 (.int .u8 0) Tryd.underlying32 hi hz0 .i64 .i64 n n (by omega) (by omega) (by rw [hz2]; omega) (by omega)
  rw [this, hz1]
  simp [fill_zero, Value.cells]

/-- What Lex gives, in numbers. -/
def LexRes (S : List UInt8) (w : World) (e : Ending) (w' : World) : Prop :=
  ∃ ao cap, e = .returned (.tuple #[.slice ao (countOf (lexAll S)) cap, .agg #[.int .i64 (faultOf (lexAll S)).1, .int .i64 (faultOf (lexAll S)).2]]) ∧ Below w.heap.size w w'

theorem lex_res {S : List UInt8} {w w' : World} {e : Ending} (h : LexOk S w e w') : LexRes S w e w' := by
  obtain ⟨hb, hm⟩ := h
  unfold LexRes
  cases hl : lexAll S with
  | error x => rw [hl] at hm; exact ⟨none, 0, hm, hb⟩
  | ok l =>
    rw [hl] at hm
    obtain ⟨v, he, hr⟩ := hm
    obtain ⟨ao, cap, rfl, _, _⟩ := hr.form (fun _ => rfl)
    exact ⟨ao, cap, he, hb⟩

theorem join_list (c : UInt8) (l : List UInt8) : (ByteArray.mk #[c] ++ ByteArray.mk l.toArray).data.toList = c :: l := by simp

def FaultIs (r : Except (Nat × Nat) (List Tok)) (x y : Int) : Prop := ((faultOf r).1 : Int) = x ∧ ((faultOf r).2 : Int) = y

theorem lex_on (s : ByteArray) (S : List UInt8) (x y : Int) (k : Nat) (w : World) (hS : s.data.toList = S) (hs : s.size ≤ 1099511627776) (hf : FaultIs (lexAll S) x y) (hk : countOf (lexAll S) = k) :
    Calls Tryd.prog 8 #[.string s] w fun e w' => ∃ ao cap, e = .returned (.tuple #[.slice ao k cap, .agg #[.int .i64 x, .int .i64 y]]) ∧ Below w.heap.size w w' := by
  subst hS hk
  refine (lex_any s w hs).mono fun e w' h => ?_
  obtain ⟨ao, cap, he, hb⟩ := lex_res h
  rw [hf.1, hf.2] at he
  exact ⟨ao, cap, he, hb⟩

theorem word_byte (c : Int) (h0 : 0 ≤ c) : ∃ u : UInt8, ((u.toNat : Nat) : Int) = 97 + c % 26 ∧ letterB u = true := by
  refine ⟨UInt8.ofNat (97 + c % 26).toNat, ?_, ?_⟩
  · rw [UInt8.toNat_ofNat']; omega
  · simp only [letterB, Bool.or_eq_true, Bool.and_eq_true, decide_eq_true_eq, UInt8.le_iff_toNat_le, UInt8.toNat_ofNat']
    have e1 : (97 : UInt8).toNat = 97 := rfl
    have e2 : (122 : UInt8).toNat = 122 := rfl
    left
    omega
theorem num_byte (c : Int) (h0 : 0 ≤ c) : ∃ u : UInt8, ((u.toNat : Nat) : Int) = 49 + c % 9 ∧ digitB u = true ∧ u ≠ 48 := by
  refine ⟨UInt8.ofNat (49 + c % 9).toNat, ?_, ?_, ?_⟩
  · rw [UInt8.toNat_ofNat']; omega
  · simp only [digitB, Bool.and_eq_true, decide_eq_true_eq, UInt8.le_iff_toNat_le, UInt8.toNat_ofNat']
    have e1 : (48 : UInt8).toNat = 48 := rfl
    have e2 : (57 : UInt8).toNat = 57 := rfl
    omega
  · intro q
    have := congrArg UInt8.toNat q
    rw [UInt8.toNat_ofNat'] at this
    have e1 : (48 : UInt8).toNat = 48 := rfl
    omega

/-- A block stands under Below, and under a new block. -/
theorem block_later {w w1 : World} {g : Nat} {o : Obj} (h : w.heap[g]? = some o) (hb : Below w.heap.size w w1) (x : Obj) : (w1.alloc x).heap[g]? = some o := by
  have hlt := (Array.getElem?_eq_some_iff.1 h).1
  rw [Lib.alloc_old w1 x g (by have := hb.size; omega), hb.block g hlt]
  exact h

/-- The three slices that are made. -/
def Made (B n m : Nat) (w : World) (a b c : Value) (w' : World) : Prop :=
  ∃ g7 g8 g9 : Nat, a = .slice (some ⟨g7, 0, none⟩) n n ∧ b = .slice (some ⟨g8, 0, none⟩) n n ∧ c = .slice (some ⟨g9, 0, none⟩) m m ∧
    w'.heap[g7]? = some (.cells (fillB n 0 0) 5 (0, 0)) ∧ w'.heap[g8]? = some (.cells (fillB n 0 0) 5 (0, 0)) ∧ w'.heap[g9]? = some (.cells (fillB m 0 0) 5 (0, 0)) ∧
    g7 ≠ g8 ∧ g7 ≠ g9 ∧ g8 ≠ g9 ∧ B ≤ g7 ∧ B ≤ g8 ∧ B ≤ g9 ∧ Below B w w'

theorem fill_any (n : Nat) (v : Int) : fillB n 0 v = fillB n 0 0 := by simp [fillB]

set_option maxHeartbeats 2000000 in
set_option maxRecDepth 100000 in
theorem limits_any (n : Nat) (c : Int) (m : Nat) (w : World) (hn0 : 1 ≤ n) (hn : n ≤ 100) (hm : m ≤ 70000) (hc0 : 0 ≤ c) (hc : c ≤ 255) :
    Calls Tryd.prog 4 #[.int .i64 n, .int .u8 c, .int .i64 m] w fun e w' => e = .returned (.bool true) ∧ Below w.heap.size w w' := by
  have k1 := make_fill n (by omega)
  have k2 := make_fill m (by omega)
  go_enter Tryd.func4, Tryd.ntmps4
  go_wp2_with (go_at_call 7; refine (anchor_any _).mono ?_; rintro e w1 ⟨rfl, hb1⟩)
  have hz1 := hb1.size
  go_upto_region 5 with fail
  go_cut [7, 8, 9] (fun s7 s8 s9 wx => Made w.heap.size n m w s7 s8 s9 wx)
  case first =>
    go_region
    all_goals
      go_wp2_with fail
      go_meet
      have eh : ∀ A B C, (((w1.alloc A).alloc B).alloc C).drew.heap = ((w1.heap.push A).push B).push C := fun _ _ _ => rfl
      refine ⟨_, _, _, rfl, rfl, rfl, ?_, ?_, ?_, ?_, ?_, ?_, ?_, ?_, ?_, ((((hb1.alloc hz1 _).alloc (by simp; omega) _).alloc (by simp; omega) _).drew)⟩
      all_goals first | omega | (rw [eh]; simp only [Array.getElem?_push, Array.size_push]; (repeat' split) <;> first | rfl | omega | exact absurd trivial ‹¬True›)
  case rest =>
    obtain ⟨g7, g8, g9, rfl, rfl, rfl, h7, h8, h9, n78, n79, n89, b7, b8, b9, hbl⟩ := hcut
    rw [← fill_any n (97 + c % 26)] at h7
    rw [← fill_any n (49 + c % 9)] at h8
    rw [← fill_any m 32] at h9
    have hc1 : 97 + c % 26 ≤ 255 := by omega
    have hc2 : 49 + c % 9 ≤ 255 := by omega
    clear k1 k2 hb1
    go_wp2
    go_loopw [43] (fun i wr => ∃ k : Nat, k ≤ n ∧ i = .int .i64 k ∧ wr.heap[g7]? = some (.cells (fillB n k (97 + c % 26)) 5 (0, 0)) ∧ wr.heap[g8]? = some (.cells (fillB n k (49 + c % 9)) 5 (0, 0)) ∧
      wr.heap[g9]? = some (.cells (fillB m 0 32) 5 (0, 0)) ∧ Below w.heap.size w wr) (fun i _ => n - (intOf i).toNat)
    case atStart => exact ⟨0, Nat.zero_le _, rfl, h7, h8, h9, hbl⟩
    case round =>
      obtain ⟨k, hk, rfl, e7, e8, e9, hbr⟩ := hrel
      clear h7 h8 h9 hbl
      by_cases hlt : k < n
      · have x7 := fill_cell e7 hlt
        have x8 := fill_cell e8 hlt
        have z7 : wr.frozen? ⟨g7, k, none⟩ = false := by simp [World.frozen?, e7]
        have z8 : wr.frozen? ⟨g8, k, none⟩ = false := by simp [World.frozen?, e8]
        have E7 := Lib.hid e7
        have E8 := Lib.hid e8
        have E9 := Lib.hid e9
        clear e7 e8 e9
        go_wp2
        go_roundw
        case rel =>
          refine ⟨k + 1, by omega, by go_num, ?_, ?_, ?_, (hbr.setCell b7 _).setCell b8 _⟩
          · rw [heap_setCell_other _ _ _ _ n78]; exact fill_set E7.out hlt
          · exact fill_set ((heap_setCell_other _ _ _ _ n78.symm).trans E8.out) hlt
          · rw [heap_setCell_other _ _ _ _ n89.symm, heap_setCell_other _ _ _ _ n79.symm]; exact E9.out
        case measure => simp [intOf]; omega
      · have hkn : k = n := by omega
        subst hkn
        go_wp2
        go_loopw [61] (fun i wq => ∃ j : Nat, j ≤ m ∧ i = .int .i64 j ∧ wq.heap[g7]? = some (.cells (fillB k k (97 + c % 26)) 5 (0, 0)) ∧ wq.heap[g8]? = some (.cells (fillB k k (49 + c % 9)) 5 (0, 0)) ∧
          wq.heap[g9]? = some (.cells (fillB m j 32) 5 (0, 0)) ∧ Below w.heap.size w wq) (fun i _ => m - (intOf i).toNat)
        case atStart => exact ⟨0, Nat.zero_le _, rfl, e7, e8, e9, hbr⟩
        case round =>
          obtain ⟨j, hj, rfl, d7, d8, d9, hbq⟩ := hrel
          clear e7 e8 e9 hbr
          by_cases hlt : j < m
          · have x9 := fill_cell d9 hlt
            have z9 : wr.frozen? ⟨g9, j, none⟩ = false := by simp [World.frozen?, d9]
            have E7 := Lib.hid d7
            have E8 := Lib.hid d8
            have E9 := Lib.hid d9
            clear d7 d8 d9
            go_wp2
            go_roundw
            case rel =>
              refine ⟨j + 1, by omega, by go_num, ?_, ?_, ?_, hbq.setCell b9 _⟩
              · rw [heap_setCell_other _ _ _ _ n79]; exact E7.out
              · rw [heap_setCell_other _ _ _ _ n89]; exact E8.out
              · exact fill_set E9.out hlt
            case measure => simp [intOf]; omega
          · have hjm : j = m := by omega
            subst hjm
            obtain ⟨u1, hu1, hl1⟩ := word_byte c hc0
            obtain ⟨u2, hu2, hl2, hn2⟩ := num_byte c hc0
            rw [← hu1] at d7
            rw [← hu2] at d8
            have d9' : wr.heap[g9]? = some (.cells (fillB j j ((32 : UInt8).toNat : Int)) 5 (0, 0)) := d9
            have D7 := Lib.hid d7
            have D8 := Lib.hid d8
            have D9 := Lib.hid d9'
            clear d7 d8 d9 d9' hu1 hu2
            obtain ⟨x1, y1, f1, p1, p1'⟩ : ∃ x y : Int, FaultIs (lexAll (32 :: List.replicate k u1)) x y ∧ (k ≤ 40 → x = 0) ∧ (40 < k → x = 20 ∧ y = 1) := by
              simp only [FaultIs, lex_word hl1 k hn0 hn]
              by_cases h : k ≤ 40
              · rw [if_pos h]; exact ⟨0, 0, ⟨rfl, rfl⟩, fun _ => rfl, fun _ => by omega⟩
              · rw [if_neg h]; exact ⟨20, 1, ⟨rfl, rfl⟩, fun _ => by omega, fun _ => ⟨rfl, rfl⟩⟩
            obtain ⟨x2, y2, f2, p2, p2'⟩ : ∃ x y : Int, FaultIs (lexAll (40 :: List.replicate k u2)) x y ∧ (k ≤ 60 → x = 0) ∧ (60 < k → x = 21 ∧ y = 1) := by
              simp only [FaultIs, lex_num hl2 hn2 k hn0 hn]
              by_cases h : k ≤ 60
              · rw [if_pos h]; exact ⟨0, 0, ⟨rfl, rfl⟩, fun _ => rfl, fun _ => by omega⟩
              · rw [if_neg h]; exact ⟨21, 1, ⟨rfl, rfl⟩, fun _ => by omega, fun _ => ⟨rfl, rfl⟩⟩
            have f3 : FaultIs (lexAll (48 :: List.replicate k u2)) 21 0 := by rw [FaultIs, lex_nought hl2 k hn0 hn]; exact ⟨rfl, rfl⟩
            obtain ⟨x4, y4, k4, f4, e4, p4, p4'⟩ : ∃ (x y : Int) (q : Nat), FaultIs (lexAll (List.replicate j 32)) x y ∧ countOf (lexAll (List.replicate j 32)) = q ∧ (j ≤ 65536 → x = 0 ∧ q = 1) ∧ (65536 < j → x = 11 ∧ y = 0 ∧ q = 0) := by
              simp only [FaultIs, (lex_long j).1, (lex_long j).2]
              by_cases h : j ≤ 65536
              · rw [if_pos h, if_pos h]; exact ⟨0, 0, 1, ⟨rfl, rfl⟩, rfl, fun _ => ⟨rfl, rfl⟩, fun _ => by omega⟩
              · rw [if_neg h, if_neg h]; exact ⟨11, 0, 0, ⟨rfl, rfl⟩, rfl, fun _ => by omega, fun _ => ⟨rfl, rfl, rfl⟩⟩
            obtain ⟨n1, e1⟩ : ∃ q, countOf (lexAll (32 :: List.replicate k u1)) = q := ⟨_, rfl⟩
            obtain ⟨n2, e2⟩ : ∃ q, countOf (lexAll (40 :: List.replicate k u2)) = q := ⟨_, rfl⟩
            obtain ⟨n3, e3⟩ : ∃ q, countOf (lexAll (48 :: List.replicate k u2)) = q := ⟨_, rfl⟩
            have L1 := fun w => lex_on (ByteArray.mk #[32] ++ ByteArray.mk (Array.replicate k u1)) _ _ _ _ w (by simp) (by simp [ByteArray.size]; omega) f1 e1
            have L2 := fun w => lex_on (ByteArray.mk #[40] ++ ByteArray.mk (Array.replicate k u2)) _ _ _ _ w (by simp) (by simp [ByteArray.size]; omega) f2 e2
            have L3 := fun w => lex_on (ByteArray.mk #[48] ++ ByteArray.mk (Array.replicate k u2)) _ _ _ _ w (by simp) (by simp [ByteArray.size]; omega) f3 e3
            have L4 := fun w => lex_on (ByteArray.mk (Array.replicate j 32)) _ _ _ _ w (by simp) (by simp [ByteArray.size]; omega) f4 e4
            have H1 := Lib.hid L1
            have H2 := Lib.hid L2
            have H3 := Lib.hid L3
            have H4 := Lib.hid L4
            have P1 := Lib.hid (And.intro p1 p1')
            have P2 := Lib.hid (And.intro p2 p2')
            have P4 := Lib.hid (And.intro p4 p4')
            clear f1 f2 f3 f4 e1 e2 e3 e4 p1 p1' p2 p2' p4 p4' L1 L2 L3 L4
            have cv := fill_conv k u1 wr g7 D7.out
            go_wp2_with fail
            refine (H1.out _).mono ?_
            rintro e w3 ⟨ao1, cap1, rfl, hb3⟩
            clear cv
            have d8 := block_later D8.out hb3 (.cells #[.int .i64 x1, .int .i64 y1] 26)
            have d9 := block_later D9.out hb3 (.cells #[.int .i64 x1, .int .i64 y1] 26)
            have hA := heap_alloc_new w3 (.cells #[.int .i64 x1, .int .i64 y1] 26)
            have hz3 := hb3.size
            have hbA : Below w.heap.size w (w3.alloc (.cells #[.int .i64 x1, .int .i64 y1] 26)) := (hbq.trans (hb3.mono hbq.size)).alloc (by have := hbq.size; omega) _
            have cv := fill_conv k u2 (w3.alloc (.cells #[.int .i64 x1, .int .i64 y1] 26)) g8 d8
            have D8' := Lib.hid d8
            have D9' := Lib.hid d9
            have HA := Lib.hid hA
            clear d8 d9 hA
            go_wp2_with fail
            refine (H2.out _).mono ?_
            rintro e w4 ⟨ao2, cap2, rfl, hb4⟩
            clear cv
            have d8 := block_later D8'.out hb4 (.cells #[.int .i64 x2, .int .i64 y2] 26)
            have d9 := block_later D9'.out hb4 (.cells #[.int .i64 x2, .int .i64 y2] 26)
            have hA := block_later HA.out hb4 (.cells #[.int .i64 x2, .int .i64 y2] 26)
            have hB := heap_alloc_new w4 (.cells #[.int .i64 x2, .int .i64 y2] 26)
            have hz4 := hb4.size
            have hbB : Below w.heap.size w (w4.alloc (.cells #[.int .i64 x2, .int .i64 y2] 26)) := (hbA.trans (hb4.mono hbA.size)).alloc (by have := hbA.size; omega) _
            have cv := fill_conv k u2 (w4.alloc (.cells #[.int .i64 x2, .int .i64 y2] 26)) g8 d8
            have D8'' := Lib.hid d8
            have D9'' := Lib.hid d9
            have HA2 := Lib.hid hA
            have HB2 := Lib.hid hB
            clear d8 d9 hA hB
            go_wp2_with fail
            refine (H3.out _).mono ?_
            rintro e w5 ⟨ao3, cap3, rfl, hb5⟩
            clear cv
            have d9 := block_later D9''.out hb5 (.cells #[.int .i64 21, .int .i64 0] 26)
            have hA := block_later HA2.out hb5 (.cells #[.int .i64 21, .int .i64 0] 26)
            have hB := block_later HB2.out hb5 (.cells #[.int .i64 21, .int .i64 0] 26)
            have hC := heap_alloc_new w5 (.cells #[.int .i64 21, .int .i64 0] 26)
            have hz5 := hb5.size
            have hbC : Below w.heap.size w (w5.alloc (.cells #[.int .i64 21, .int .i64 0] 26)) := (hbB.trans (hb5.mono hbB.size)).alloc (by have := hbB.size; omega) _
            have cv := fill_conv j 32 (w5.alloc (.cells #[.int .i64 21, .int .i64 0] 26)) g9 d9
            have HA3 := Lib.hid hA
            have HB3 := Lib.hid hB
            have HC3 := Lib.hid hC
            clear d9 hA hB hC
            go_wp2_with fail
            refine (H4.out _).mono ?_
            rintro e w6 ⟨ao4, cap4, rfl, hb6⟩
            clear cv
            have hA := block_later HA3.out hb6 (.cells #[.int .i64 x4, .int .i64 y4] 26)
            have hB := block_later HB3.out hb6 (.cells #[.int .i64 x4, .int .i64 y4] 26)
            have hC := block_later HC3.out hb6 (.cells #[.int .i64 x4, .int .i64 y4] 26)
            have hD := heap_alloc_new w6 (.cells #[.int .i64 x4, .int .i64 y4] 26)
            have hz6 := hb6.size
            have hbD : Below w.heap.size w (w6.alloc (.cells #[.int .i64 x4, .int .i64 y4] 26)) := (hbC.trans (hb6.mono hbC.size)).alloc (by have := hbC.size; omega) _
            have a0 : (w6.alloc (.cells #[.int .i64 x4, .int .i64 y4] 26)).cell? ⟨w3.heap.size, 0, none⟩ = some (.int .i64 x1) := by rw [Lib.cell_of_heap hA]; rfl
            have a1 : (w6.alloc (.cells #[.int .i64 x4, .int .i64 y4] 26)).cell? ⟨w3.heap.size, 1, none⟩ = some (.int .i64 y1) := by rw [Lib.cell_of_heap hA]; rfl
            have b0 : (w6.alloc (.cells #[.int .i64 x4, .int .i64 y4] 26)).cell? ⟨w4.heap.size, 0, none⟩ = some (.int .i64 x2) := by rw [Lib.cell_of_heap hB]; rfl
            have b1 : (w6.alloc (.cells #[.int .i64 x4, .int .i64 y4] 26)).cell? ⟨w4.heap.size, 1, none⟩ = some (.int .i64 y2) := by rw [Lib.cell_of_heap hB]; rfl
            have c0 : (w6.alloc (.cells #[.int .i64 x4, .int .i64 y4] 26)).cell? ⟨w5.heap.size, 0, none⟩ = some (.int .i64 21) := by rw [Lib.cell_of_heap hC]; rfl
            have c1 : (w6.alloc (.cells #[.int .i64 x4, .int .i64 y4] 26)).cell? ⟨w5.heap.size, 1, none⟩ = some (.int .i64 0) := by rw [Lib.cell_of_heap hC]; rfl
            have d0 : (w6.alloc (.cells #[.int .i64 x4, .int .i64 y4] 26)).cell? ⟨w6.heap.size, 0, none⟩ = some (.int .i64 x4) := by rw [Lib.cell_of_heap hD]; rfl
            have d1 : (w6.alloc (.cells #[.int .i64 x4, .int .i64 y4] 26)).cell? ⟨w6.heap.size, 1, none⟩ = some (.int .i64 y4) := by rw [Lib.cell_of_heap hD]; rfl
            clear hA hB hC hD HA HB2 HA2 HA3 HB3 HC3 D8' D9' D8'' D9'' D7 D8 D9 H1 H2 H3 H4
            have p1 := P1.out
            have p2 := P2.out
            have p4 := P4.out
            clear P1 P2 P4
            by_cases s1 : k ≤ 40
            · obtain rfl := p1.1 s1
              obtain rfl := p2.1 (by omega)
              have t1 : (k : Int) ≤ 40 := by omega
              have t2 : (k : Int) ≤ 60 := by omega
              clear p1 p2
              by_cases s3 : j ≤ 65536
              · obtain ⟨rfl, rfl⟩ := p4.1 s3
                have t3 : (j : Int) ≤ 65536 := by omega
                clear p4
                go_wp2_with fail
                go_ret
                exact ⟨rfl, hbD⟩
              · obtain ⟨rfl, rfl, rfl⟩ := p4.2 (by omega)
                have t3 : (65536 : Int) < j := by omega
                clear p4
                go_wp2_with fail
                go_ret
                exact ⟨rfl, hbD⟩
            · obtain ⟨rfl, rfl⟩ := p1.2 (by omega)
              have t1 : decide ((k : Int) ≤ 40) = false := decide_eq_false (by omega)
              by_cases s2 : k ≤ 60
              · obtain rfl := p2.1 s2
                have t2 : (k : Int) ≤ 60 := by omega
                clear p1 p2
                by_cases s3 : j ≤ 65536
                · obtain ⟨rfl, rfl⟩ := p4.1 s3
                  have t3 : (j : Int) ≤ 65536 := by omega
                  clear p4
                  go_wp2_with fail
                  go_ret
                  exact ⟨rfl, hbD⟩
                · obtain ⟨rfl, rfl, rfl⟩ := p4.2 (by omega)
                  have t3 : (65536 : Int) < j := by omega
                  clear p4
                  go_wp2_with fail
                  go_ret
                  exact ⟨rfl, hbD⟩
              · obtain ⟨rfl, rfl⟩ := p2.2 (by omega)
                have t2 : decide ((k : Int) ≤ 60) = false := decide_eq_false (by omega)
                clear p1 p2
                by_cases s3 : j ≤ 65536
                · obtain ⟨rfl, rfl⟩ := p4.1 s3
                  have t3 : (j : Int) ≤ 65536 := by omega
                  clear p4
                  go_wp2_with fail
                  go_ret
                  exact ⟨rfl, hbD⟩
                · obtain ⟨rfl, rfl, rfl⟩ := p4.2 (by omega)
                  have t3 : (65536 : Int) < j := by omega
                  clear p4
                  go_wp2_with fail
                  go_ret
                  exact ⟨rfl, hbD⟩
end Go.Proofs.YtofbhdpcpoclaaaDoor
