/- The walk of the reference's Lex. -/
import Derived.Test.YtofbhdpcpoclaaaDoorRefLex5
import Derived.Test.YtofbhdpcpoclaaaDoorLexFacts
import Derived.StillTailTactics
namespace Go.Proofs.YtofbhdpcpoclaaaDoor
open Go.RowKit

/-- What the reference's Lex gives. -/
def RefLexOk (S : List UInt8) (w : World) (e : Ending) (w' : World) : Prop :=
  Below w.heap.size w w' ∧ match lexAll S with
  | .ok l => ∃ v, e = .returned (.tuple #[v, .int .i64 0, .int .i64 0]) ∧ Rec w'.heap.size w' v 4 tokCells l
  | .error x => e = .returned (.tuple #[.slice none 0 0, .int .i64 x.1, .int .i64 x.2])

theorem ret_fault {a b c d : Int} (h1 : a = c) (h2 : b = d) : Ending.returned (.tuple #[.slice none 0 0, .int .i64 a, .int .i64 b]) = .returned (.tuple #[.slice none 0 0, .int .i64 c, .int .i64 d]) := by rw [h1, h2]

theorem tokF_kind5 (T : List UInt8) (h : T ≠ []) : (tokF T).1 ≠ 5 := fun q => h (tokF_end T q)

set_option maxHeartbeats 1000000 in
set_option maxRecDepth 100000 in
theorem refLex_any (s : ByteArray) (w : World) (hs : s.size ≤ 1099511627776) : Calls Tryd.prog 9 #[.string s] w (RefLexOk s.data.toList w) := by
  obtain ⟨i0, hi, hz0, hz1, hz2⟩ := info_parts Tryd.infoRToken
  by_cases hbig : 65536 < s.size
  · have hI : (65536 : Int) < ↑s.size := by omega
    have hq : lexAll s.data.toList = .error (11, 0) := by rw [lexAll, if_pos (by rw [← Lib.size_eq]; exact hbig)]
    have HQ := Lib.hid hq
    clear hq
    go_enter Tryd.func9, Tryd.ntmps9
    go_wp2
    go_ret3
    refine ⟨Below.refl _ _, ?_⟩
    rw [HQ.out]
    rfl
  · have hI : ¬ (65536 : Int) < ↑s.size := by omega
    have hq : lexAll s.data.toList = lexF (s.size + 1) s.data.toList 0 := by rw [lexAll, if_neg (by rw [← Lib.size_eq]; exact hbig), ← Lib.size_eq]
    have HQ := Lib.hid hq
    clear hq
    go_enter Tryd.func9, Tryd.ntmps9
    go_wp2
    go_loopw [5, 6] (fun out at0 wr => ∃ (p m : Nat) (acc : List Tok), at0 = .int .i64 p ∧ p ≤ s.size ∧ s.size < p + m ∧ lexF (s.size + 1) s.data.toList 0 = preF acc (lexF m (s.data.toList.drop p) p) ∧ acc.length ≤ p ∧
      wr.ownsRow w.heap.size 37 4 out acc.length (acc.flatMap tokCells) ∧ Below w.heap.size w wr) (fun _ at0 _ => s.size - (intOf at0).toNat)
    case atStart => exact ⟨0, s.size + 1, [], rfl, Nat.zero_le _, by omega, (preF_nil _).symm, Nat.le_refl _, World.ownsRow_nil _ _ _ _, Below.refl _ _⟩
    case round =>
      obtain ⟨p, m, acc, rfl, hp, hm, hl, hal, hown, hb⟩ := hrel
      have hz := hb.size
      obtain ⟨m, rfl⟩ : ∃ m', m = m' + 1 := ⟨m - 1, by omega⟩
      have hld := fun w => refLead_any s p w hs hp
      have hkl : leadF false (s.data.toList.drop p) ≤ s.size - p := by have := leadF_le false (s.data.toList.drop p); rwa [List.length_drop, ← Lib.size_eq] at this
      generalize hk : leadF false (s.data.toList.drop p) = k at hld hkl
      generalize hf : p + k = f at hld
      have hfs : f ≤ s.size := by omega
      have hpf : p ≤ f := by omega
      have HLD := Lib.hid hld
      have HK := Lib.hid hk
      have HL := Lib.hid hl
      have HF := Lib.hid hf
      clear hld hk hl hf
      by_cases hend : f = s.size
      · subst hend
        have hT : s.data.toList.drop (p + k) = [] := by rw [HF.out, List.drop_eq_nil_iff, ← Lib.size_eq]; exact Nat.le_refl _
        have hq := HL.out
        have htk : tokF ((s.data.toList.drop p).drop k) = (5, 0, 0) := by rw [List.drop_drop, hT]; rfl
        rw [lexF_end _ _ _ _ _ HK.out htk rfl rfl, HF.out] at hq
        have hyl : (s.extract p s.size).data.toList = (s.data.toList.drop p).take k := by rw [extract_list, List.take_of_length_le (by rw [← Lib.size_eq]; exact Nat.le_refl _), List.take_of_length_le]; rw [List.length_drop, ← Lib.size_eq]; have := HF.out; omega
        have hcl : [Value.int .i64 5, .string (s.extract p s.size), .string ⟨#[]⟩, .int .i64 s.size] = tokCells ⟨5, (s.data.toList.drop p).take k, [], s.size⟩ := tok_cells (kd := 5) (pk := s.size) hyl (by rfl : (ByteArray.mk #[]).data.toList = []) (rfl : ((s.size : Nat) : Int) = ((s.size : Nat) : Int))
        have HQ2 := Lib.hid hq
        have HCL := Lib.hid hcl
        have HYL := Lib.hid hyl
        clear hT hq htk hcl hyl
        go_wp2_with (first | (go_at_call 13; refine (HLD.out _).mono ?_; rintro e w2 ⟨rfl, rfl⟩) | (at_builtin; refine wpList_append_own _ rfl _ _ 34 rfl w.heap.size 37 i0 (.agg #[.int .i64 0, .string ByteArray.empty, .string ByteArray.empty, .int .i64 0]) 4 48 Tryd.underlying34 hi hz0 hz1 hz2 rfl (by decide) _ _ _ rfl (hown.alloc _) ⟨w2.heap.size, 0, none⟩ 1 1 [.int .i64 5, .string (s.extract p s.size), .string ⟨#[]⟩, .int .i64 s.size] rfl rfl ?c1 ?c2 ?c3 ?c4 ?c5 ?_))
        case c1 => exact cells_four (by go_simp) (by go_simp) (by go_simp) (by go_simp)
        case c2 => intro u hu; simp at hu; rcases hu with rfl | rfl | rfl | rfl <;> rfl
        case c3 => unfold maxLen; omega
        case c4 => omega
        case c5 => simp; omega
        intro v' w4 hown' hgrow _
        have hb4 : Below w.heap.size w w4 := (hb.alloc hz _).grown hgrow (by simp; omega) (fun q hq => (hown.lt q hq).1)
        rw [HCL.out] at hown'
        have hown4 : w4.ownsRow w.heap.size 37 4 v' (acc ++ [Tok.mk 5 ((s.data.toList.drop p).take k) [] s.size]).length ((acc ++ [Tok.mk 5 ((s.data.toList.drop p).take k) [] s.size]).flatMap tokCells) := by
          rw [List.flatMap_append, List.length_append]
          exact hown'
        clear hgrow hown' hown
        go_wp2
        go_ret3
        refine ⟨hb4, ?_⟩
        rw [HQ.out, HQ2.out]
        exact ⟨_, rfl, Sl.ofOwns hown4⟩
      · have hfl : f < s.size := by omega
        have hne : ((f : Int) == (s.size : Int)) = false := by rw [← Bool.not_eq_true, beq_iff_eq]; omega
        have htk := fun w => refToken_any s f w hs hfl
        have htl : (tokF (s.data.toList.drop f)).2.1 ≤ s.size - f := by have := tokF_len (s.data.toList.drop f); rwa [List.length_drop, ← Lib.size_eq] at this
        have h5 : (tokF (s.data.toList.drop f)).1 ≠ 5 := tokF_kind5 _ (by rw [drop_byte hfl]; simp)
        have hps := tokF_pos (s.data.toList.drop f)
        generalize ht : tokF (s.data.toList.drop f) = t at htk htl h5 hps
        obtain ⟨kd, n, er⟩ := t
        simp only at htl h5 hps
        have hT : tokF ((s.data.toList.drop p).drop k) = (kd, n, er) := by rw [List.drop_drop, HF.out]; exact ht
        have HT := Lib.hid htk
        clear htk ht hend
        by_cases her : er = 0
        · subst her
          have hn0 : 0 < n := hps rfl h5
          have hq := HL.out
          rw [lexF_step _ _ _ _ _ HK.out hT rfl h5, preF_preF, List.drop_drop, List.drop_drop, ← Nat.add_assoc p k, HF.out] at hq
          generalize hg : f + n = g at hq
          have hgs : g ≤ s.size := by omega
          have hfg : f < g := by omega
          have hrt : refTok f (kd, n, 0) = .tuple #[.int .i64 kd, .int .i64 g, .int .i64 0] := by rw [refTok]; simp only [if_pos]; rw [hg]; rfl
          have hyl : (s.extract p f).data.toList = (s.data.toList.drop p).take k := by rw [extract_list, ← HF.out, List.drop_take, Nat.add_sub_cancel_left]
          have hzl : (s.extract f g).data.toList = (s.data.toList.drop f).take n := by rw [extract_list, ← hg, List.drop_take, Nat.add_sub_cancel_left]
          have hcl := tok_cells (kd := kd) (pk := f) hyl hzl (rfl : ((f : Nat) : Int) = ((f : Nat) : Int))
          have HQ2 := Lib.hid hq
          have HCL := Lib.hid hcl
          have HRT := Lib.hid hrt
          clear hT hq hcl hyl hzl hg hrt hps
          go_wp2_with (first | (go_at_call 13; refine (HLD.out _).mono ?_; rintro e w2 ⟨rfl, rfl⟩) | (go_at_call 14; refine (HT.out _).mono ?_))
          rintro e w3 ⟨he, hb3⟩
          rw [HRT.out] at he
          subst he
          go_wp2
          have g1 : 0 ≤ (p : Int) := by omega
          have g2 : (p : Int) ≤ (f : Int) := by omega
          have g3 : (f : Int) ≤ (s.size : Int) := by omega
          have g4 : (f : Int) ≤ (g : Int) := by omega
          have g5 : (g : Int) ≤ (s.size : Int) := by omega
          have hb3' : Below w.heap.size w w3 := hb.trans (hb3.mono hz)
          have hown3 := own_below hown hb3
          have hz4 := hb3'.size
          clear hb3 hb hown
          go_region_held3 (fun w' => True) (first | go_keep | trivial)
            ((refine step_append_lies _ (by rfl) _ _ _ (by rfl) w.heap.size 37 i0 _ 4 48 Tryd.underlying34 hi hz0 hz1 hz2 rfl (by omega) u5 acc.length _ (by rfl) (owns_drew (hown3.alloc _)) ⟨w3.heap.size, 0, none⟩ 1 1 [.int .i64 kd, .string (s.extract p f), .string (s.extract f g), .int .i64 f] (by rfl) (by rfl) (World.news_of_block (cs := #[.int .i64 kd, .string (s.extract p f), .string (s.extract f g), .int .i64 f]) (t := 37) (fr := (0, 0)) (heap_alloc_new w3 _)) (by simp [Value.oneCell']) (by omega) (by unfold maxLen; omega) (by omega) (by simp; omega) (w3.heap.size + 1) (by simp) ?_; intro gg cap5 w5 hown' hgrow hat5 hlt5))
          have hb5 : Below w.heap.size w w5 := ((hb3'.alloc hz4 _).drew).grown hgrow (by simp; omega) (fun q hq => (hown3.lt q hq).1)
          rw [HCL.out] at hown'
          have hown5 : w5.ownsRow w.heap.size 37 4 (.slice (some ⟨gg, 0, none⟩) (acc.length + 1) cap5) (acc ++ [Tok.mk kd ((s.data.toList.drop p).take k) ((s.data.toList.drop f).take n) f]).length ((acc ++ [Tok.mk kd ((s.data.toList.drop p).take k) ((s.data.toList.drop f).take n) f]).flatMap tokCells) := by
            rw [List.flatMap_append, List.length_append]
            exact hown'
          clear hgrow hown' hown3
          go_wp2
          go_roundw
          case rel => exact ⟨g, m, _, rfl, hgs, by omega, HQ2.out, by rw [List.length_append]; simp; omega, hown5, hb5⟩
          case measure => simp [intOf]; omega
        · have hq := HL.out
          rw [lexF_err _ _ _ _ _ HK.out hT her, HF.out] at hq
          have hne2 : ((er : Int) != 0) = true := by rw [bne_iff_ne]; omega
          have HQ2 := Lib.hid hq
          clear hT hq hps
          go_wp2_with (first | (go_at_call 13; refine (HLD.out _).mono ?_; rintro e w2 ⟨rfl, rfl⟩) | (go_at_call 14; refine (HT.out _).mono ?_))
          rintro e w3 ⟨he, hb3⟩
          rw [refTok] at he
          subst he
          go_wp2
          go_ret3
          refine ⟨hb.trans (hb3.mono hz), ?_⟩
          rw [HQ.out, HQ2.out]
          rfl
end Go.Proofs.YtofbhdpcpoclaaaDoor
