/- The walk of lex.Lex. -/
import Derived.Test.YtofbhdpcpoclaaaDoorLexW2
import Derived.Test.YtofbhdpcpoclaaaDoorLexW5
import Derived.Test.YtofbhdpcpoclaaaDoorLexInfo
namespace Go.Proofs.YtofbhdpcpoclaaaDoor
open Go.RowKit

def preF (acc : List Tok) : Except (Nat × Nat) (List Tok) → Except (Nat × Nat) (List Tok)
  | .error e => .error e
  | .ok l => .ok (acc ++ l)

theorem preF_nil (x : Except (Nat × Nat) (List Tok)) : preF [] x = x := by cases x <;> rfl
theorem preF_preF (a b : List Tok) (x : Except (Nat × Nat) (List Tok)) : preF a (preF b x) = preF (a ++ b) x := by
  cases x
  · rfl
  · simp [preF]

theorem lexF_err (n : Nat) (T : List UInt8) (p k : Nat) (t : Nat × Nat × Nat) (hk : leadF false T = k) (ht : tokF (T.drop k) = t) (he : t.2.2 ≠ 0) : lexF (n + 1) T p = .error (t.2.2, p + k) := by
  subst hk ht
  rw [lexF]
  rw [if_pos he]

theorem lexF_end (n : Nat) (T : List UInt8) (p k : Nat) (t : Nat × Nat × Nat) (hk : leadF false T = k) (ht : tokF (T.drop k) = t) (he : t.2.2 = 0) (h5 : t.1 = 5) : lexF (n + 1) T p = .ok [⟨5, T.take k, [], p + k⟩] := by
  subst hk ht
  rw [lexF]
  rw [if_neg (by omega), if_pos h5]

theorem lexF_step (n : Nat) (T : List UInt8) (p k : Nat) (t : Nat × Nat × Nat) (hk : leadF false T = k) (ht : tokF (T.drop k) = t) (he : t.2.2 = 0) (h5 : t.1 ≠ 5) :
    lexF (n + 1) T p = preF [⟨t.1, T.take k, (T.drop k).take t.2.1, p + k⟩] (lexF n (T.drop (k + t.2.1)) (p + k + t.2.1)) := by
  subst hk ht
  rw [lexF]
  rw [if_neg (by omega), if_neg h5, List.drop_drop]
  cases lexF n _ _ <;> rfl

theorem cells_four {w : World} {g : Nat} {x y z u : Value} (h0 : w.cell? ⟨g, 0, none⟩ = some x) (h1 : w.cell? ⟨g, 1, none⟩ = some y) (h2 : w.cell? ⟨g, 2, none⟩ = some z) (h3 : w.cell? ⟨g, 3, none⟩ = some u) :
    ∀ j v, [x, y, z, u][j]? = some v → w.cell? ((⟨g, 0, none⟩ : Addr).add j) = some v := by
  intro j v hj
  match j, hj with
  | 0, hj => simp at hj; subst hj; simpa [Addr.add] using h0
  | 1, hj => simp at hj; subst hj; simpa [Addr.add] using h1
  | 2, hj => simp at hj; subst hj; simpa [Addr.add] using h2
  | 3, hj => simp at hj; subst hj; simpa [Addr.add] using h3

theorem own_below {w w' : World} {base e sz n : Nat} {v : Value} {xs : List Value} (h : w.ownsRow base e sz v n xs) (hb : Below w.heap.size w w') : w'.ownsRow base e sz v n xs := by
  refine ⟨h.1, ?_⟩
  rcases h.2 with hn | ⟨g, cap, cur, hv, hg, hh, hr⟩
  · exact .inl hn
  · exact .inr ⟨g, cap, cur, hv, hg, by rw [hb.block g (Array.getElem?_eq_some_iff.1 hh).1]; exact hh, hr⟩

theorem tokF_five (T : List UInt8) (h : (tokF T).1 = 5) : (tokF T).2.1 = 0 := by
  cases T with
  | nil => rfl
  | cons c r =>
    exfalso
    rw [tokF] at h
    split at h
    · rw [wordF] at h
      split at h
      · cases h
      · split at h <;> cases h
    · split at h
      · rw [numF] at h
        split at h <;> cases h
      · rw [symF] at h
        split at h <;> cases h

theorem tok_cells {kd pk : Nat} {l t : List UInt8} {y z : ByteArray} {a : Int} (hy : y.data.toList = l) (hz : z.data.toList = t) (ha : a = pk) :
    [Value.int .i64 kd, .string y, .string z, .int .i64 a] = tokCells ⟨kd, l, t, pk⟩ := by
  subst hy hz ha
  rfl

/-- What Lex gives. -/
def LexOk (S : List UInt8) (w : World) (e : Ending) (w' : World) : Prop :=
  Below w.heap.size w w' ∧ match lexAll S with
  | .ok l => ∃ v, e = .returned (.tuple #[v, .agg #[.int .i64 0, .int .i64 0]]) ∧ Rec w'.heap.size w' v 4 tokCells l
  | .error x => e = .returned (.tuple #[.slice none 0 0, .agg #[.int .i64 x.1, .int .i64 x.2]])

set_option maxHeartbeats 1000000 in
set_option maxRecDepth 100000 in
theorem lex_any (s : ByteArray) (w : World) (hs : s.size ≤ 1099511627776) : Calls Tryd.prog 8 #[.string s] w (LexOk s.data.toList w) := by
  obtain ⟨i0, hi, hz0, hz1, hz2⟩ := info_parts Tryd.infoToken
  by_cases hbig : 65536 < s.size
  · have hI : (65536 : Int) < ↑s.size := by omega
    have hq : lexAll s.data.toList = .error (11, 0) := by rw [lexAll, if_pos (by rw [← Lib.size_eq]; exact hbig)]
    have HQ := Lib.hid hq
    clear hq
    go_enter Tryd.func8, Tryd.ntmps8
    go_wp2
    refine bodyPost_ret (v := .tuple #[.slice none 0 0, .agg #[.int .i64 11, .int .i64 0]]) (by simp [results, Tryd.results8, go_sem]) rfl ?_
    refine ⟨(Below.refl _ _).alloc (Nat.le_refl _) _, ?_⟩
    rw [HQ.out]
    rfl
  · have hI : ¬ (65536 : Int) < ↑s.size := by omega
    have hq : lexAll s.data.toList = lexF (s.size + 1) s.data.toList 0 := by rw [lexAll, if_neg (by rw [← Lib.size_eq]; exact hbig), ← Lib.size_eq]
    have HQ := Lib.hid hq
    clear hq
    go_enter Tryd.func8, Tryd.ntmps8
    go_wp2
    generalize hw1 : w.alloc (.cells #[.int .i64 0, .int .i64 0] 26) = w1
    have hb1 : Below w.heap.size w w1 := by rw [← hw1]; exact (Below.refl _ _).alloc (Nat.le_refl _) _
    have hf1 : w1.heap[w.heap.size]? = some (.cells #[.int .i64 0, .int .i64 0] 26 (0, 0)) := by rw [← hw1]; exact heap_alloc_new _ _
    have hlt1 : w.heap.size < w1.heap.size := by rw [← hw1]; simp
    clear hw1
    go_loopw [4, 5] (fun out at0 wr => ∃ (p m : Nat) (acc : List Tok), at0 = .int .i64 p ∧ p ≤ s.size ∧ s.size < p + m ∧ lexF (s.size + 1) s.data.toList 0 = preF acc (lexF m (s.data.toList.drop p) p) ∧ acc.length ≤ p ∧
      wr.ownsRow w1.heap.size 30 4 out acc.length (acc.flatMap tokCells) ∧ Below w1.heap.size w1 wr) (fun _ at0 _ => s.size - (intOf at0).toNat)
    case atStart => exact ⟨0, s.size + 1, [], rfl, Nat.zero_le _, by omega, (preF_nil _).symm, Nat.le_refl _, World.ownsRow_nil _ _ _ _, Below.refl _ _⟩
    case round =>
      obtain ⟨p, m, acc, rfl, hp, hm, hl, hal, hown, hb⟩ := hrel
      have hz := hb.size
      obtain ⟨m, rfl⟩ : ∃ m', m = m' + 1 := ⟨m - 1, by omega⟩
      have hxl : (s.extract p s.size).data.toList = s.data.toList.drop p := extract_end s p
      have hxz : (s.extract p s.size).size ≤ 1099511627776 := by rw [ByteArray.size_extract]; omega
      have hbt := between_any (s.extract p s.size) wr hxz
      generalize hk : leadF false (s.extract p s.size).data.toList = k at hbt
      have hkl : k ≤ s.size - p := by rw [← hk, hxl]; have := leadF_le false (s.data.toList.drop p); rwa [List.length_drop, ← Lib.size_eq] at this
      have hys : ((s.extract p s.size).extract 0 k).size = k := by rw [ByteArray.size_extract, ByteArray.size_extract]; omega
      have hyl : ((s.extract p s.size).extract 0 k).data.toList = (s.data.toList.drop p).take k := by rw [extract_list, List.drop_zero, hxl]
      generalize hy : (s.extract p s.size).extract 0 k = y at hbt hys hyl
      have hul : (s.extract (p + k) s.size).data.toList = s.data.toList.drop (p + k) := extract_end s _
      have huz : (s.extract (p + k) s.size).size ≤ 1099511627776 := by rw [ByteArray.size_extract]; omega
      have htk := fun w => token_any (s.extract (p + k) s.size) w huz
      have hpk : (p : Int) + (k : Int) ≤ ↑s.size := by omega
      generalize ht : tokF (s.extract (p + k) s.size).data.toList = t at htk
      have htl : t.2.1 ≤ s.size - (p + k) := by rw [← ht, hul]; have := tokF_len (s.data.toList.drop (p + k)); rwa [List.length_drop, ← Lib.size_eq] at this
      obtain ⟨kd, n, er⟩ := t
      simp only at htl
      have hzs : ((s.extract (p + k) s.size).extract 0 n).size = n := by rw [ByteArray.size_extract, ByteArray.size_extract]; omega
      have hzl : ((s.extract (p + k) s.size).extract 0 n).data.toList = (s.data.toList.drop (p + k)).take n := by rw [extract_list, List.drop_zero, hul]
      rw [hxl] at hk
      rw [hul, ← List.drop_drop] at ht
      have HB := Lib.hid hbt
      have HT := Lib.hid htk
      have HYL := Lib.hid hyl
      have HZL := Lib.hid hzl
      have HTL := Lib.hid ht
      have HK := Lib.hid hk
      have HL := Lib.hid hl
      have HZS := Lib.hid hzs
      clear hbt htk hy hyl hul hxl hk hl huz hxz ht hzl hzs
      go_wp2_with (first | (go_at_call 11; refine HB.out.mono ?_; rintro e w2 ⟨rfl, hb2⟩) | (go_at_call 12; refine (HT.out _).mono ?_))
      rintro e w3 ⟨he, hb3⟩
      obtain rfl : e = .returned (.tuple #[.int .i64 kd, .string ((s.extract (p + k) s.size).extract 0 n), .int .i64 er]) := he
      have hzw3 := hb3.size
      have hzw2 := hb2.size
      have hb13 : Below w1.heap.size w1 w3 := (hb.trans (hb2.mono hz)).trans (hb3.mono (by omega))
      have hown3 := own_below (own_below hown hb2) hb3
      have hf3 : w3.heap[w.heap.size]? = some (.cells #[.int .i64 0, .int .i64 0] 26 (0, 0)) := by rw [hb13.block _ hlt1]; exact hf1
      have hbw : Below w.heap.size w w3 := hb1.trans (hb13.mono (by omega))
      clear hb2 hb3 hown hb
      by_cases her : er = 0
      · subst her
        generalize hzz : (s.extract (p + k) s.size).extract 0 n = z
        have HZZ := Lib.hid hzz
        have hzn : z.size = n := by rw [← hzz]; exact HZS.out
        have hzl' : z.data.toList = (s.data.toList.drop (p + k)).take n := by rw [← hzz]; exact HZL.out
        have HZL' := Lib.hid hzl'
        clear hzz hzl'
        go_wp2_with (at_builtin; refine wpList_append_own _ rfl _ _ 23 rfl w1.heap.size 30 i0 (.agg #[.int .i64 0, .string ByteArray.empty, .string ByteArray.empty, .int .i64 0]) 4 48 Tryd.underlying23 hi hz0 hz1 hz2 rfl (by decide) _ _ _ rfl (hown3.alloc _) ⟨w3.heap.size, 0, none⟩ 1 1 [.int .i64 kd, .string y, .string z, .int .i64 (p + k)] rfl rfl ?c1 ?c2 ?c3 ?c4 ?c5 ?_)
        case c1 => exact cells_four (by go_simp) (by go_simp) (by go_simp) (by go_simp)
        case c2 => intro u hu; simp at hu; rcases hu with rfl | rfl | rfl | rfl <;> rfl
        case c3 => unfold maxLen; omega
        case c4 => omega
        case c5 => simp; omega
        intro v' w4 hown' hgrow _
        have hb4 : Below w1.heap.size w1 w4 := (hb13.alloc (by omega) _).grown hgrow (by simp; omega) (fun q hq => (hown3.lt q hq).1)
        have hf4 := own_block (hown3.alloc _) hgrow ((Lib.alloc_old w3 _ _ (by omega)).trans hf3) (by decide)
        have hcl := tok_cells (kd := kd) (pk := p + k) HYL.out HZL'.out (by rfl : ((p : Int) + (k : Int)) = ((p + k : Nat) : Int))
        rw [hcl] at hown'
        have hown4 : w4.ownsRow w1.heap.size 30 4 v' (acc ++ [Tok.mk kd ((s.data.toList.drop p).take k) ((s.data.toList.drop (p + k)).take n) (p + k)]).length ((acc ++ [Tok.mk kd ((s.data.toList.drop p).take k) ((s.data.toList.drop (p + k)).take n) (p + k)]).flatMap tokCells) := by
          rw [List.flatMap_append, List.length_append]
          exact hown'
        have hzw4 := hb4.size
        have hbw4 : Below w.heap.size w w4 := hb1.trans (hb4.mono (by omega))
        clear hgrow hown' hcl hown3 hb13 hbw
        by_cases h5 : kd = 5
        · have hk5 : ((kd : Int) == 5) = true := by rw [h5]; rfl
          have hq := HL.out
          rw [lexF_end _ _ _ _ _ HK.out HTL.out rfl h5] at hq
          have hn0 : n = 0 := by have := tokF_five ((s.data.toList.drop p).drop k) (by rw [HTL.out]; exact h5); rw [HTL.out] at this; exact this
          rw [hn0, List.take_zero, h5] at hown4
          have HQ2 := Lib.hid hq
          clear hq h5 hn0
          have f0 : w4.cell? ⟨w.heap.size, 0, none⟩ = some (.int .i64 0) := by rw [Lib.cell_of_heap hf4]; rfl
          have f1 : w4.cell? ⟨w.heap.size, 1, none⟩ = some (.int .i64 0) := by rw [Lib.cell_of_heap hf4]; rfl
          have z0 : ∀ j, w4.frozen? ⟨w.heap.size, j, none⟩ = false := by intro j; simp [World.frozen?, hf4]
          go_wp2
          refine bodyPost_ret (v := .tuple #[v', .agg #[.int .i64 0, .int .i64 0]]) (by simp [results, Tryd.results8, go_sem, f0, f1]) rfl ?_
          refine ⟨(hbw4.setCell (Nat.le_refl _) _).setCell (Nat.le_refl _) _, ?_⟩
          rw [HQ.out, HQ2.out]
          exact ⟨_, rfl, Sl.ofOwns (ownsRow_setCell_below (ownsRow_setCell_below hown4 hlt1 _) hlt1 _)⟩
        · have hk5 : ((kd : Int) == 5) = false := by rw [← Bool.not_eq_true, beq_iff_eq]; omega
          have hq := HL.out
          rw [lexF_step _ _ _ _ _ HK.out HTL.out rfl h5, preF_preF, List.drop_drop, List.drop_drop, ← Nat.add_assoc p k] at hq
          have hn0 : 0 < n := by have := tokF_pos ((s.data.toList.drop p).drop k) (by rw [HTL.out]) (by rw [HTL.out]; exact h5); rw [HTL.out] at this; exact this
          have HQ2 := Lib.hid hq
          clear hq
          go_wp2
          go_roundw
          case rel => exact ⟨p + k + n, m, _, by go_num, by omega, by omega, HQ2.out, by rw [List.length_append]; simp; omega, hown4, hb4⟩
          case measure => simp [intOf]; omega
      · have hne : ((er : Int) == 0) = false := by rw [← Bool.not_eq_true, beq_iff_eq]; omega
        have f0 : w3.cell? ⟨w.heap.size, 0, none⟩ = some (.int .i64 0) := by rw [Lib.cell_of_heap hf3]; rfl
        have f1 : w3.cell? ⟨w.heap.size, 1, none⟩ = some (.int .i64 0) := by rw [Lib.cell_of_heap hf3]; rfl
        have z0 : ∀ j, w3.frozen? ⟨w.heap.size, j, none⟩ = false := by intro j; simp [World.frozen?, hf3]
        have hq := HL.out
        rw [lexF_err _ _ _ _ _ HK.out HTL.out her] at hq
        have HQ2 := Lib.hid hq
        clear hq
        go_wp2
        refine bodyPost_ret (v := .tuple #[.slice none 0 0, .agg #[.int .i64 er, .int .i64 (p + k)]]) (by simp [results, Tryd.results8, go_sem, f0, f1]) rfl ?_
        refine ⟨(hbw.setCell (Nat.le_refl _) _).setCell (Nat.le_refl _) _, ?_⟩
        rw [HQ.out, HQ2.out]
        rfl
end Go.Proofs.YtofbhdpcpoclaaaDoor
