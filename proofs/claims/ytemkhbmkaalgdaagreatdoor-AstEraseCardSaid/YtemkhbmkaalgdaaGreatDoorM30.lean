/- The walks of the code that the claim reaches, and the plain laws: FormW, ListW. No condition of ours. -/
import Derived.Test.YtemkhbmkaalgdaaGreatDoorM29
import Derived.Test.YtemkhbmkaalgdaaGreatDoorM05
import Derived.Test.YtemkhbmkaalgdaaGreatDoorM11
import Derived.Test.YtemkhbmkaalgdaaGreatDoorM16
import Derived.Test.YtemkhbmkaalgdaaGreatDoorM06
namespace Go.Proofs.YtemkhbmkaalgdaaGreatDoor
open Go.RowKit Go
def FormOk (r : FRes) (w : World) (e : Ending) (w' : World) : Prop :=
  Below w.heap.size w w' ∧ match r with
  | .bad c a => e = .returned (.tuple #[.agg #[.slice none 0 0, .slice none 0 0], .agg #[.int .i64 c, .int .i64 a]])
  | .good toks nodes => ∃ at_ ct an cn, e = .returned (.tuple #[.agg #[.slice at_ toks.length ct, .slice an nodes.length cn], .agg #[.int .i64 0, .int .i64 0]]) ∧ TreeTy w' (.agg #[.slice at_ toks.length ct, .slice an nodes.length cn]) toks nodes
theorem fault_cells {w : World} {b : Nat} {x y : Value} (h : w.heap[b]? = some (.cells #[x, y] 44 (0, 0))) : w.cell? ⟨b, 0, none⟩ = some x ∧ w.cell? ⟨b, 1, none⟩ = some y ∧ ∀ j, w.frozen? ⟨b, j, none⟩ = false := by
  refine ⟨?_, ?_, fun j => ?_⟩
  · rw [Lib.cell_of_heap h]; rfl
  · rw [Lib.cell_of_heap h]; rfl
  · simp [World.frozen?, h]
theorem tree_cellsz {w : World} {b : Nat} {x y : Value} (h : w.heap[b]? = some (.cells #[x, y] 25 (0, 0))) : w.cell? ⟨b, 0, none⟩ = some x ∧ w.cell? ⟨b, 1, none⟩ = some y ∧ ∀ j, w.frozen? ⟨b, j, none⟩ = false := by
  refine ⟨?_, ?_, fun j => ?_⟩
  · rw [Lib.cell_of_heap h]; rfl
  · rw [Lib.cell_of_heap h]; rfl
  · simp [World.frozen?, h]
set_option maxHeartbeats 1000000 in
set_option maxRecDepth 100000 in
theorem read_lexbad (s : ByteArray) (d : Nat) (fv : Value) (w : World) (hd1 : 1 ≤ d) (hd2 : d ≤ 200) (hs : s.size ≤ 1099511627776) (c a : Nat) (hl : lexAll s.data.toList = .error (c, a)) (hc : c ≠ 0) :
    Calls Tryz.prog 32 #[.string s, .int .i64 d, fv] w (FormOk (.bad c a) w) := by
  have HL : Hid (∀ W, Calls Tryz.prog 53 #[.string s] W fun e w' => e = .returned (.tuple #[.slice none 0 0, .agg #[.int .i64 c, .int .i64 a]]) ∧ Below W.heap.size W w') := Lib.hid fun W => (lex_any s W hs).mono fun e w' h => by
    unfold LexOk at h
    rw [hl] at h
    exact ⟨h.2, h.1⟩
  have hc0 : ((c : Int) == 0) = false := by simp; omega
  have hal := (below_new w (.cells #[.slice none 0 0, .slice none 0 0] 25)).alloc (by simp) (.cells #[.int .i64 0, .int .i64 0] 44)
  have e1 := (Lib.alloc_old (w.alloc (.cells #[.slice none 0 0, .slice none 0 0] 25)) (.cells #[.int .i64 0, .int .i64 0] 44) w.heap.size (by simp)).trans (heap_alloc_new w (.cells #[.slice none 0 0, .slice none 0 0] 25))
  have e2 := heap_alloc_new (w.alloc (.cells #[.slice none 0 0, .slice none 0 0] 25)) (.cells #[.int .i64 0, .int .i64 0] 44)
  rw [World.size_alloc] at e2
  have hdI1 : ¬ ((d : Int) < 1) := by omega
  have hdI2 : ¬ ((200 : Int) < (d : Int)) := by omega
  clear hl
  go_enter Tryz.func32, Tryz.ntmps32
  go_upto_region 5 with (go_at_call 53; refine (HL.out _).mono ?_; rintro e w3 ⟨rfl, hb3⟩; have hz3 := hb3.size)
  rw [World.size_alloc, World.size_alloc] at hz3
  have G6 := (Lib.alloc_old w3 (.cells #[.int .i64 c, .int .i64 a] 44) w.heap.size (by omega)).trans ((hb3.block w.heap.size (by simp; omega)).trans e1)
  have G7 := (Lib.alloc_old w3 (.cells #[.int .i64 c, .int .i64 a] 44) (w.heap.size + 1) (by omega)).trans ((hb3.block (w.heap.size + 1) (by simp)).trans e2)
  have hb4 := (hal.trans (hb3.mono (by simp; omega))).alloc (by omega) (.cells #[.int .i64 c, .int .i64 a] 44)
  have N9 := heap_alloc_new w3 (.cells #[.int .i64 c, .int .i64 a] 44)
  clear hb3 e1 e2 hal HL
  generalize hx : w3.heap.size = xb at N9 ⊢
  generalize w3.alloc _ = w4 at G6 G7 hb4 N9 ⊢
  obtain ⟨q0, q1, qz⟩ := tree_cellsz G6
  obtain ⟨p0, p1, pz⟩ := fault_cells G7
  obtain ⟨f0, f1, fz⟩ := fault_cells N9
  go_region
  go_wp2
  refine bodyPost_ret (v := .tuple #[.agg #[.slice none 0 0, .slice none 0 0], .agg #[.int .i64 c, .int .i64 a]]) (by simp [results, Tryz.results32, go_sem, q0, q1, p0, p1]) rfl ⟨?_, rfl⟩
  exact ((((hb4.setCell (by simp) _).setCell (by simp) _).setCell (by simp) _).setCell (by simp) _).drew
set_option maxHeartbeats 2000000 in
set_option maxRecDepth 100000 in
theorem read_parse (s : ByteArray) (d : Nat) (w : World) (hd1 : 1 ≤ d) (hd2 : d ≤ 200) (hs : s.size ≤ 1099511627776) (toks : List Tok) (hl : lexAll s.data.toList = .ok toks) (hn : toks.length ≤ 100000)
    (a : Int × PSt) (ha : run toks d (gasA toks) (.expr 1) { startP with clause := true } = some a) (han : a.2.nodes.length ≤ 2 * toks.length) (hkl : (nodeM 18 [a.1, (kindM toks 5 a.2).1] (kindM toks 5 a.2).2).2.fE = 0 → ∀ n ∈ (nodeM 18 [a.1, (kindM toks 5 a.2).1] (kindM toks 5 a.2).2).2.nodes, n.kids.length ≤ 1000000) :
    Calls Tryz.prog 32 #[.string s, .int .i64 d, .func (.func 44) #[] #[]] w (FormOk (ofSt toks (nodeM 18 [a.1, (kindM toks 5 a.2).1] (kindM toks 5 a.2).2).2) w) := by
  have hpos := (lexAll_laid hl).some
  have g1 := nodeM_grows 18 [a.1, (kindM toks 5 a.2).1] (kindM toks 5 a.2).2
  have g2 := kindM_grows toks 5 a.2
  have HA : Hid (∀ (E : PEnv) (w : World), E.toks = toks → E.depth = d → E.ok → PW E startP w → Calls Tryz.prog 44 #[.pointer (some ⟨E.pb, 0, none⟩)] w (VPost E (nodeM 18 [a.1, (kindM toks 5 a.2).1] (kindM toks 5 a.2).2).2 w)) := Lib.hid (fun E w h1 h2 hE hp => by
    subst h1 h2
    exact alone_any E hE (gasA E.toks) startP a w ha hp (by omega))
  clear ha
  generalize (nodeM 18 [a.1, (kindM toks 5 a.2).1] (kindM toks 5 a.2).2).2 = st at g1 hkl HA ⊢
  have hnl : st.nodes.length ≤ 1000000 := by omega
  clear g1 g2 han
  have HL : Hid (∀ W, Calls Tryz.prog 53 #[.string s] W fun e w' => (∃ at_ ct, e = .returned (.tuple #[.slice at_ toks.length ct, .agg #[.int .i64 0, .int .i64 0]]) ∧ Rec w'.heap.size w' (.slice at_ toks.length ct) 4 tokCells toks) ∧ Below W.heap.size W w') := Lib.hid fun W => (lex_any s W hs).mono fun e w' h => by
    unfold LexOk at h
    rw [hl] at h
    obtain ⟨h1, v, h2, h3⟩ := h
    obtain ⟨at_, ct, rfl, _, _⟩ := h3.form (fun _ => rfl)
    exact ⟨⟨at_, ct, h2, h3⟩, h1⟩
  have hal := (below_new w (.cells #[.slice none 0 0, .slice none 0 0] 25)).alloc (by simp) (.cells #[.int .i64 0, .int .i64 0] 44)
  have e1 := (Lib.alloc_old (w.alloc (.cells #[.slice none 0 0, .slice none 0 0] 25)) (.cells #[.int .i64 0, .int .i64 0] 44) w.heap.size (by simp)).trans (heap_alloc_new w (.cells #[.slice none 0 0, .slice none 0 0] 25))
  have e2 := heap_alloc_new (w.alloc (.cells #[.slice none 0 0, .slice none 0 0] 25)) (.cells #[.int .i64 0, .int .i64 0] 44)
  rw [World.size_alloc] at e2
  have hdI1 : ¬ ((d : Int) < 1) := by omega
  have hdI2 : ¬ ((200 : Int) < (d : Int)) := by omega
  clear hl
  go_enter Tryz.func32, Tryz.ntmps32
  go_upto_region 6 with (go_at_call 53; refine (HL.out _).mono ?_; rintro e w3 ⟨⟨at_, ct, rfl, hrec⟩, hb3⟩; have hz3 := hb3.size)
  rw [World.size_alloc, World.size_alloc] at hz3
  have G6 := (Lib.alloc_old w3 (.cells #[.int .i64 0, .int .i64 0] 44) w.heap.size (by omega)).trans ((hb3.block w.heap.size (by simp; omega)).trans e1)
  have G7 := (Lib.alloc_old w3 (.cells #[.int .i64 0, .int .i64 0] 44) (w.heap.size + 1) (by omega)).trans ((hb3.block (w.heap.size + 1) (by simp)).trans e2)
  have hb4 := (hal.trans (hb3.mono (by simp; omega))).alloc (by omega) (.cells #[.int .i64 0, .int .i64 0] 44)
  have hrec4 := hrec.below (below_new w3 (.cells #[.int .i64 0, .int .i64 0] 44))
  have hz4 : w3.heap.size ≤ (w3.alloc (.cells #[.int .i64 0, .int .i64 0] 44)).heap.size := by simp
  clear hb3 e1 e2 hal HL hrec hdI1 hdI2
  generalize w3.heap.size = B3 at hrec4 hz4 hz3 ⊢
  generalize w3.alloc _ = w4 at G6 G7 hb4 hrec4 hz4 ⊢
  have HN := Lib.hid (newB_any w4.heap.size _ toks w4 (hrec4.mono hz4) hpos (by omega))
  go_upto_region 7 with (go_at_call 54; refine HN.out.mono ?_; rintro e w5 ⟨bb, B, tv, rfl, hbw, hrec5, hBB, hb5⟩)
  have hbw' := hbw
  obtain ⟨hBb, nv0, l0, hbk, _⟩ := hbw'
  have hblt := (Array.getElem?_eq_some_iff.1 hbk).1
  have G65 := (Lib.alloc_old w5 (.cells #[.pointer (some ⟨bb, 0, none⟩), .int .i64 d, .bool false, .int .i64 0, .int .i64 0] 126) w.heap.size (by have := hb5.size; have := (Array.getElem?_eq_some_iff.1 G6).1; omega)).trans ((hb5.block w.heap.size (Array.getElem?_eq_some_iff.1 G6).1).trans G6)
  have G75 := (Lib.alloc_old w5 (.cells #[.pointer (some ⟨bb, 0, none⟩), .int .i64 d, .bool false, .int .i64 0, .int .i64 0] 126) (w.heap.size + 1) (by have := hb5.size; have := (Array.getElem?_eq_some_iff.1 G7).1; omega)).trans ((hb5.block (w.heap.size + 1) (Array.getElem?_eq_some_iff.1 G7).1).trans G7)
  have hb6 := (hb4.trans (hb5.mono hb4.size)).alloc (by have := hb4.size; have := hb5.size; omega) (.cells #[.pointer (some ⟨bb, 0, none⟩), .int .i64 d, .bool false, .int .i64 0, .int .i64 0] 126)
  have hPW : PW ⟨[], B, w5.heap.size, bb, tv, toks, d⟩ startP (w5.alloc (.cells #[.pointer (some ⟨bb, 0, none⟩), .int .i64 d, .bool false, .int .i64 0, .int .i64 0] 126)) :=
    ⟨heap_alloc_new _ _, hbw.later (below_new _ _), hrec5.below ((below_new w5 _).mono (by omega)), by show B ≤ w5.heap.size; omega, Nat.zero_le _, fun r hr => by cases hr⟩
  have hBw : w.heap.size ≤ B := Nat.le_trans hb4.size hBB
  have HAL := Lib.hid (HA.out ⟨[], B, w5.heap.size, bb, tv, toks, d⟩ _ rfl rfl ⟨hpos, by show toks.length ≤ _; omega, by show d ≤ 1000; omega⟩ hPW)
  clear HN HA hbw hrec5 hb5 hb4 G6 G7 hrec4 hPW hbk
  generalize w5.heap.size = pb at HAL ⊢
  generalize w5.alloc _ = w6 at G65 G75 hb6 HAL ⊢
  go_upto_region 8 with (go_at_call 44; refine HAL.out.mono ?_; rintro e w7 ⟨rfl, hp7, hk7⟩)
  have G67 := hk7.2 _ _ _ _ G65 (by decide) (by decide) (by decide)
  have G77 := hk7.2 _ _ _ _ G75 (by decide) (by decide) (by decide)
  have hb7 : Below w.heap.size w w7 := hb6.trans (hk7.1.mono hBw)
  have HOK := Lib.hid (ok_any _ st w7 hp7)
  obtain ⟨c0, c1, c2, c3, c4, cz⟩ := hp7.cells
  obtain ⟨h1, hbw7, hrec7, _⟩ := hp7
  obtain ⟨q0, q1, qz⟩ := tree_cellsz G67
  obtain ⟨p0, p1, pz⟩ := fault_cells G77
  clear hk7 HAL h1 G65 G75 hb6
  simp only at c0 c1 c2 c3 c4 hbw7 hrec7
  by_cases hf : st.fE = 0
  · have hok : okB st = true := by unfold okB; simp [hf]
    rw [hok] at HOK
    have HD := Lib.hid (done_any _ B bb tv toks st.nodes st.used w7 hbw7 hrec7 hpos (by omega) hnl (hkl hf))
    have HOF : Hid (ofSt toks st = .good toks st.nodes) := Lib.hid (by rw [ofSt, if_pos hf])
    clear hok hf hbw7 hrec7 c1 c2 c3 c4 q0 q1 qz p0 p1 pz
    rw [HOF.out]
    go_upto_region 10 with (go_at_call 55; refine HOK.out.mono ?_; rintro e w8 ⟨rfl, rfl⟩)
    go_wp2_with (go_at_call 56; refine HD.out.mono ?_; rintro e w9 ⟨v9, rfl, ht9, hb9⟩; obtain ⟨at9, ct9, an9, cn9, rfl⟩ := ht9.at.slices; have G69 := (hb9.block w.heap.size (Array.getElem?_eq_some_iff.1 G67).1).trans G67; have G79 := (hb9.block (w.heap.size + 1) (Array.getElem?_eq_some_iff.1 G77).1).trans G77; obtain ⟨q0, q1, qz⟩ := tree_cellsz G69; obtain ⟨p0, p1, pz⟩ := fault_cells G79)
    have T1 := ht9.set G69 (by decide) (by decide) (by decide) 0 (.slice at9 toks.length ct9)
    have G1 := heap_setCell_same w9 w.heap.size 0 _ _ (.slice at9 toks.length ct9) G69
    have T2 := T1.set G1 (by decide) (by decide) (by decide) 1 (.slice an9 st.nodes.length cn9)
    have F1 : ((w9.setCell ⟨w.heap.size, 0, none⟩ (.slice at9 toks.length ct9)).setCell ⟨w.heap.size, 1, none⟩ (.slice an9 st.nodes.length cn9)).heap[w.heap.size + 1]? = some (.cells #[.int .i64 0, .int .i64 0] 44 (0, 0)) := by
      rw [heap_setCell_other _ _ _ _ (by show w.heap.size + 1 ≠ w.heap.size; omega), heap_setCell_other _ _ _ _ (by show w.heap.size + 1 ≠ w.heap.size; omega)]
      exact G79
    have T3 := T2.set F1 (by decide) (by decide) (by decide) 0 (.int .i64 0)
    have F2 := heap_setCell_same _ (w.heap.size + 1) 0 _ _ (.int .i64 0) F1
    have T4 := T3.set F2 (by decide) (by decide) (by decide) 1 (.int .i64 0)
    have hb9' := hb7.trans (hb9.mono hb7.size)
    refine bodyPost_ret (v := .tuple #[.agg #[.slice at9 toks.length ct9, .slice an9 st.nodes.length cn9], .agg #[.int .i64 0, .int .i64 0]]) (by simp [results, Tryz.results32, go_sem, q0, q1, p0, p1]) rfl ?_
    rw [HOF.out]
    exact ⟨(((hb9'.setCell (by simp) _).setCell (by simp) _).setCell (by simp) _).setCell (by simp) _, at9, ct9, an9, cn9, rfl, T4⟩
  · have hok : okB st = false := by unfold okB; simp [hf]
    rw [hok] at HOK
    have HOF : Hid (ofSt toks st = .bad st.fE st.fAt) := Lib.hid (by rw [ofSt, if_neg hf])
    clear hok hf hbw7 hrec7 c1 c2 hkl hnl
    go_upto_region 9 with (go_at_call 55; refine HOK.out.mono ?_; rintro e w8 ⟨rfl, rfl⟩)
    go_region
    go_wp2
    refine bodyPost_ret (v := .tuple #[.agg #[.slice none 0 0, .slice none 0 0], .agg #[.int .i64 st.fE, .int .i64 st.fAt]]) (by simp [results, Tryz.results32, go_sem, q0, q1, p0, p1]) rfl ?_
    rw [HOF.out]
    exact ⟨((((hb7.setCell (by simp) _).setCell (by simp) _).setCell (by simp) _).setCell (by simp) _).drew, rfl⟩
theorem read_any (s : ByteArray) (d : Nat) (w : World) (hd1 : 1 ≤ d) (hd2 : d ≤ 200) (hs : s.size ≤ 1099511627776) :
    Calls Tryz.prog 32 #[.string s, .int .i64 d, .func (.func 44) #[] #[]] w (FormOk (formF s.data.toList d) w) := by
  cases hl : lexAll s.data.toList with
  | error x =>
    have hf := (lexAll_fault hl).2
    have e : formF s.data.toList d = .bad x.1 x.2 := by rw [formF, hl]
    rw [e]
    exact read_lexbad s d _ w hd1 hd2 hs x.1 x.2 hl (by omega)
  | ok toks =>
    have hL := lexAll_laid hl
    have hlen : toks.length ≤ 65537 := by
      have h1 := hL.count
      unfold lexAll at hl
      split at hl
      · cases hl
      · omega
    obtain ⟨a, ha, hu, hn⟩ := alone_total hL d
    have e : formF s.data.toList d = ofSt toks (nodeM 18 [a.1, (kindM toks 5 a.2).1] (kindM toks 5 a.2).2).2 := by
      rw [formF, hl]
      simp only
      unfold aloneM
      rw [ha, Option.bind_some]
    rw [e]
    refine read_parse s d w hd1 hd2 hs toks hl (by omega) a ha hn fun hf n hm => ?_
    obtain ⟨ce, he, _⟩ := alone_tree hL ha hf
    have g1 := nodeM_grows 18 [a.1, (kindM toks 5 a.2).1] (kindM toks 5 a.2).2
    have g2 := kindM_grows toks 5 a.2
    rw [he] at hm g1
    rw [PT.em_len] at g1
    have := em_kids _ _ _ n hm
    omega
set_option maxHeartbeats 2000000 in
set_option maxRecDepth 100000 in
theorem formula_any (s : ByteArray) (d : Nat) (w : World) (hd1 : 1 ≤ d) (hd2 : d ≤ 200) (hs : s.size ≤ 1099511627776) :
    Calls Tryz.prog 25 #[.string s, .int .i64 d] w (FormOk (formF s.data.toList d) w) := by
  have HR := Lib.hid (fun W => read_any s d W hd1 hd2 hs)
  have hal := (below_new w (.cells #[.slice none 0 0, .slice none 0 0] 25)).alloc (by simp) (.cells #[.int .i64 0, .int .i64 0] 44)
  have e1 := (Lib.alloc_old (w.alloc (.cells #[.slice none 0 0, .slice none 0 0] 25)) (.cells #[.int .i64 0, .int .i64 0] 44) w.heap.size (by simp)).trans (heap_alloc_new w (.cells #[.slice none 0 0, .slice none 0 0] 25))
  have e2 := heap_alloc_new (w.alloc (.cells #[.slice none 0 0, .slice none 0 0] 25)) (.cells #[.int .i64 0, .int .i64 0] 44)
  rw [World.size_alloc] at e2
  have HB : Hid (∀ w9, Below ((w.alloc (.cells #[.slice none 0 0, .slice none 0 0] 25)).alloc (.cells #[.int .i64 0, .int .i64 0] 44)).heap.size ((w.alloc (.cells #[.slice none 0 0, .slice none 0 0] 25)).alloc (.cells #[.int .i64 0, .int .i64 0] 44)) w9 → Below w.heap.size w w9 ∧ w9.heap[w.heap.size]? = some (.cells #[.slice none 0 0, .slice none 0 0] 25 (0, 0)) ∧ w9.heap[w.heap.size + 1]? = some (.cells #[.int .i64 0, .int .i64 0] 44 (0, 0))) := Lib.hid fun w9 hb => ⟨hal.trans (hb.mono (by simp; omega)), (hb.block w.heap.size (by simp; omega)).trans e1, (hb.block (w.heap.size + 1) (by simp)).trans e2⟩
  clear hal e1 e2
  generalize formF s.data.toList d = r at HR ⊢
  go_enter Tryz.func25, Tryz.ntmps25
  cases r with
  | bad c a =>
    go_wp2_with (go_at_call 32; refine (HR.out _).mono ?_; rintro e w9 ⟨hb9, rfl⟩; obtain ⟨hb, G6, G7⟩ := HB.out w9 hb9; obtain ⟨q0, q1, qz⟩ := tree_cellsz G6; obtain ⟨p0, p1, pz⟩ := fault_cells G7)
    refine bodyPost_ret (v := .tuple #[.agg #[.slice none 0 0, .slice none 0 0], .agg #[.int .i64 c, .int .i64 a]]) (by simp [results, Tryz.results25, go_sem, q0, q1, p0, p1]) rfl ?_
    exact ⟨(((hb.setCell (by simp) _).setCell (by simp) _).setCell (by simp) _).setCell (by simp) _, rfl⟩
  | good toks nodes =>
    go_wp2_with (go_at_call 32; refine (HR.out _).mono ?_; rintro e w9 ⟨hb9, at9, ct9, an9, cn9, rfl, ht9⟩; obtain ⟨hb, G69, G79⟩ := HB.out w9 hb9; obtain ⟨q0, q1, qz⟩ := tree_cellsz G69; obtain ⟨p0, p1, pz⟩ := fault_cells G79)
    have T1 := ht9.set G69 (by decide) (by decide) (by decide) 0 (.slice at9 toks.length ct9)
    have G1 := heap_setCell_same w9 w.heap.size 0 _ _ (.slice at9 toks.length ct9) G69
    have T2 := T1.set G1 (by decide) (by decide) (by decide) 1 (.slice an9 nodes.length cn9)
    have F1 : ((w9.setCell ⟨w.heap.size, 0, none⟩ (.slice at9 toks.length ct9)).setCell ⟨w.heap.size, 1, none⟩ (.slice an9 nodes.length cn9)).heap[w.heap.size + 1]? = some (.cells #[.int .i64 0, .int .i64 0] 44 (0, 0)) := by
      rw [heap_setCell_other _ _ _ _ (by show w.heap.size + 1 ≠ w.heap.size; omega), heap_setCell_other _ _ _ _ (by show w.heap.size + 1 ≠ w.heap.size; omega)]
      exact G79
    have T3 := T2.set F1 (by decide) (by decide) (by decide) 0 (.int .i64 0)
    have F2 := heap_setCell_same _ (w.heap.size + 1) 0 _ _ (.int .i64 0) F1
    have T4 := T3.set F2 (by decide) (by decide) (by decide) 1 (.int .i64 0)
    refine bodyPost_ret (v := .tuple #[.agg #[.slice at9 toks.length ct9, .slice an9 nodes.length cn9], .agg #[.int .i64 0, .int .i64 0]]) (by simp [results, Tryz.results25, go_sem, q0, q1, p0, p1]) rfl ?_
    exact ⟨(((hb.setCell (by simp) _).setCell (by simp) _).setCell (by simp) _).setCell (by simp) _, at9, ct9, an9, cn9, rfl, T4⟩
end Go.Proofs.YtemkhbmkaalgdaaGreatDoor

namespace Go.Proofs.YtemkhbmkaalgdaaGreatDoor
open Go.RowKit Go
def ListAtC (E : PEnv) (one : PSt → Option (Int × PSt)) (res : List Int × PSt) (w0 : World) (kv nv : Value) (wr : World) : Prop :=
  ∃ (r m : Nat) (kids : List Int) (s : PSt) (R : List Nat), nv = .int .i64 (m : Nat) ∧ m + r = 9 ∧ kids.length + 2 * r ≤ 16 ∧ listLoop E.toks one r kids s = some res ∧
    wr.ownsRow w0.heap.size 3 1 kv kids.length (kids.map (Value.int .i64)) ∧ (∀ b, kv.ownBlock = some b → b ∈ R) ∧ (∀ r ∈ E.R, r ∈ R) ∧ (kids = [] → kv = .slice none 0 0) ∧ PR E R s wr ∧ Kp E.B w0 wr ∧ s.clause = false
set_option maxHeartbeats 4000000 in
set_option maxRecDepth 100000 in
theorem list_param (E : PEnv) (hE : E.ok) (one : PSt → Option (Int × PSt)) (st : PSt) (res : List Int × PSt) (w : World) (h : listM E.toks one st = some res) (hp : PW E st w) (hn : res.2.nodes.length + 1 ≤ 1099511627776)
    (hcl : st.clause = false) (hext : ∀ s k, one s = some k → PExt s k.2)
    (hone : ∀ (R : List Nat) (s : PSt) (k : Int × PSt) (w' : World), s.clause = false → one s = some k → PR E R s w' → Kp E.B w w' → k.2.nodes.length + 1 ≤ 1099511627776 →
      Calls Tryz.prog 87 #[.pointer (some ⟨E.pb, 0, none⟩)] w' (PPost { E with R := R } k w')) :
    Calls Tryz.prog 86 #[.pointer (some ⟨E.pb, 0, none⟩), .func (.func 87) #[.pointer (some ⟨E.pb, 0, none⟩)] #[]] w (LPost E res w) := by
  have hdep := hE.2.2
  obtain ⟨i0, hi, hz0, hz1, hz2⟩ := info_parts Tryz.infoInt
  unfold listM at h
  by_cases hx : nextF E.toks st [[41]] = true
  · rw [if_pos hx] at h
    injection h with h; subst h
    have HX := Lib.hid (next_is E hE ⟨#[41]⟩ st true hx)
    clear hx hone hext
    go_enter Tryz.func86, Tryz.ntmps86
    go_wp2_with (go_at_call 82; refine (HX.out w hp).mono ?_)
    rintro e w1 ⟨rfl, hp1, hk1⟩
    go_wp2
    go_ret
    exact ⟨_, rfl, ⟨none, 0, rfl, Nat.le_refl _, fun q => absurd q (by simp)⟩, fun _ => rfl, hp1, hk1⟩
  · rw [if_neg hx] at h
    have HX := Lib.hid (next_is E hE ⟨#[41]⟩ st false (eq_false_of_ne_true hx))
    have H0 := Lib.hid h
    have HONE := Lib.hid hone
    have HEXT := Lib.hid hext
    have HN := Lib.hid hn
    have HE := Lib.hid hE
    clear hx hone hext h hn
    go_enter Tryz.func86, Tryz.ntmps86
    go_wp2_with (go_at_call 82; refine (HX.out w hp).mono ?_)
    rintro e w1 ⟨rfl, hp1, hk1⟩
    go_wp2
    go_loopw [5, 6] (fun kv nv wr => ListAtC E one res w kv nv wr) (fun _ nv _ => 10 - (intOf nv).toNat)
    case atStart => exact ⟨8, 1, [], st, E.R, rfl, rfl, by simp, H0.out, World.ownsRow_nil _ _ _ _, fun _ q => by simp [Value.ownBlock] at q, fun _ q => q, fun _ => rfl, hp1, hk1, hcl⟩
    case round =>
      obtain ⟨r, m, kids, s, R, rfl, hm, hkl, hl, hown, hR, hER, hnil, hps, hks, hsc⟩ := hrel
      obtain ⟨ao, cap, rfl⟩ := own_form hown
      have HNIL := Lib.hid hnil
      clear hnil
      have hBw : E.B ≤ w.heap.size := hp.B_le
      by_cases hf : s.fE = 0
      · have HO := Lib.hid (ok_yes { E with R := R } s hf)
        cases r with
        | zero =>
          obtain rfl : m = 9 := by omega
          rw [listLoop, if_pos hf] at hl
          injection hl with hl
          have HF := Lib.hid (fun w hp => pfail_any { E with R := R } HE.out 15 s w hp)
          have HL := Lib.hid hl
          clear hl hf
          go_wp2_with (go_at_call 55; refine (HO.out _ hps).mono ?_)
          rintro e w2 ⟨rfl, hp2, hk2⟩
          go_wp2_with (go_at_call 83; refine (HF.out _ hp2).mono ?_)
          rintro e w3 ⟨rfl, hp3, hk3⟩
          have hown3 := own_kp (own_kp hown hk2) hk3
          go_wp2
          go_ret
          exact list_done hown3 hER hp3 ((hks.trans hk2).trans hk3) HL.out HNIL.out
        | succ r =>
          rw [listLoop, if_neg (by simp [hf])] at hl
          obtain ⟨k, h1, hl⟩ := Option.bind_eq_some_iff.1 hl
          have d8 : decide (8 < (m : Int)) = false := decide_eq_false (by omega)
          have d8' : decide (8 < m) = false := decide_eq_false (by omega)
          have hnk : k.2.nodes.length + 1 ≤ 1099511627776 := by
            split at hl
            · exact nodes_le ((leafM_ext _ _).trans (listLoop_ext _ one HEXT.out _ _ _ _ hl)) HN.out
            · injection hl with hl; rw [← hl] at HN; exact HN.out
          have HCK : Hid (k.2.clause = false) := Lib.hid (by rw [(HEXT.out s k h1).2.2.1]; exact hsc)
          have HK := Lib.hid (fun w' hp hk => HONE.out R s k w' hsc h1 hp hk hnk)
          have HL := Lib.hid hl
          clear hl h1 hf
          go_wp2_with (go_at_call 55; refine (HO.out _ hps).mono ?_)
          rintro e w2 ⟨rfl, hp2, hk2⟩
          go_wp2_with (go_at_call 87; refine (HK.out _ hp2 (hks.trans hk2)).mono ?_)
          rintro e w3 ⟨rfl, hp3, hk3⟩
          have hp3' : PR E R k.2 w3 := hp3
          clear hp3
          have hown3 := own_kp (own_kp hown hk2) hk3
          have hpA : PR E R k.2 (w3.alloc (.cells #[.int .i64 k.1] 3)) := PW.later hp3' (below_new w3 _)
          have hnw := heap_alloc_new w3 (.cells #[.int .i64 k.1] 3)
          have hkA : Kp E.B w (w3.alloc (.cells #[.int .i64 k.1] 3)) := ((hks.trans hk2).trans hk3).trans (Kp.of (below_new w3 _) hp3'.B_le)
          have hownA := hown3.alloc (.cells #[.int .i64 k.1] 3)
          have hsz3 : w.heap.size ≤ w3.heap.size := ((hks.trans hk2).trans hk3).size
          go_wp2_with (at_builtin; refine wpList_append_lies _ rfl _ _ 71 rfl w.heap.size 3 i0 (.int .i64 0) 1 8 Tryz.underlying71 hi hz0 hz1 hz2 rfl (by decide) _ _ _ rfl hownA ⟨w3.heap.size, 0, none⟩ 1 1 [.int .i64 k.1] rfl rfl ?c1 ?c2 ?c3 ?c4 ?c5 ?c6 _ rfl ?_)
          case c1 => exact World.news_of_block (cs := #[.int .i64 k.1]) (t := 3) (fr := (0, 0)) hnw
          case c2 => simp [Value.oneCell']
          case c3 => omega
          case c4 => unfold maxLen; omega
          case c5 => omega
          case c6 => simp; omega
          intro g cap4 w4 hown4 hgrow4 hat4 hlt4
          obtain ⟨R4, hR4, hg4, hp4⟩ := hpA.append hownA hBw hR hgrow4 hat4 (by simp) hlt4
          have hk4 := hkA.grown hownA (Nat.le_refl _) hBw hgrow4
          have hown4' : w4.ownsRow w.heap.size 3 1 (.slice (some ⟨g, 0, none⟩) (kids.length + 1) cap4) (kids.length + 1) ((kids ++ [k.1]).map (Value.int .i64)) := by rw [List.map_append]; exact hown4
          have hER4 : ∀ r ∈ E.R, r ∈ R4 := fun r hr => hR4 r (hER r hr)
          clear hpA hnw hkA hownA hgrow4 hat4 hlt4 hown3 hown4 hk2 hk3 hp2 hp3' hown hps hks HO HK HX H0 HONE hsz3 hR4
          by_cases hf4 : k.2.fE = 0
          · have HO4 := Lib.hid (ok_yes { E with R := R4 } k.2 hf4)
            by_cases hx4 : nextF E.toks k.2 [[44]] = true
            · have hl := HL.out
              rw [if_pos ⟨hf4, hx4⟩] at hl
              have HX4 := Lib.hid (next_is { E with R := R4 } HE.out ⟨#[44]⟩ k.2 true hx4)
              have HLF := Lib.hid (fun w hp => pleaf_any { E with R := R4 } k.2 w hp HE.out.1 HE.out.2.1 hnk)
              have HL2 := Lib.hid hl
              clear hl HL hf4 hx4
              go_wp2_with (go_at_call 55; refine (HO4.out _ hp4).mono ?_)
              rintro e w5 ⟨rfl, hp5, hk5⟩
              go_wp2_with (go_at_call 82; refine (HX4.out _ hp5).mono ?_)
              rintro e w6 ⟨rfl, hp6, hk6⟩
              obtain ⟨d0, _, _, _, _, _⟩ := hp6.cells
              go_wp2_with (go_at_call 84; refine (HLF.out _ hp6).mono ?_)
              rintro e w7 ⟨rfl, hp7, hk7⟩
              clear d0
              have hp7' : PR E R4 (leafM E.toks k.2).2 w7 := hp7
              clear hp7
              have hown7 := own_kp (own_kp (own_kp hown4' hk5) hk6) hk7
              have hk47 := ((hk4.trans hk5).trans hk6).trans hk7
              have hpA : PR E R4 (leafM E.toks k.2).2 (w7.alloc (.cells #[.int .i64 (leafM E.toks k.2).1] 3)) := PW.later hp7' (below_new w7 _)
              have hnw := heap_alloc_new w7 (.cells #[.int .i64 (leafM E.toks k.2).1] 3)
              have hkA : Kp E.B w (w7.alloc (.cells #[.int .i64 (leafM E.toks k.2).1] 3)) := hk47.trans (Kp.of (below_new w7 _) hp7'.B_le)
              have hownA := hown7.alloc (.cells #[.int .i64 (leafM E.toks k.2).1] 3)
              have hsz7 : w.heap.size ≤ w7.heap.size := hk47.size
              have hv4 : ∀ b, (Value.slice (some ⟨g, 0, none⟩) (kids.length + 1) cap4).ownBlock = some b → b ∈ R4 := fun b hb => by
                simp only [Value.ownBlock, Option.some.injEq] at hb; subst hb; exact hg4
              go_wp2_with (at_builtin; refine wpList_append_lies _ rfl _ _ 71 rfl w.heap.size 3 i0 (.int .i64 0) 1 8 Tryz.underlying71 hi hz0 hz1 hz2 rfl (by decide) _ _ _ rfl hownA ⟨w7.heap.size, 0, none⟩ 1 1 [.int .i64 (leafM E.toks k.2).1] rfl rfl ?c1 ?c2 ?c3 ?c4 ?c5 ?c6 _ rfl ?_)
              case c1 => exact World.news_of_block (cs := #[.int .i64 (leafM E.toks k.2).1]) (t := 3) (fr := (0, 0)) hnw
              case c2 => simp [Value.oneCell']
              case c3 => omega
              case c4 => unfold maxLen; omega
              case c5 => omega
              case c6 => simp; omega
              intro g8 cap8 w8 hown8 hgrow8 hat8 hlt8
              obtain ⟨R8, hR8, hg8, hp8⟩ := hpA.append hownA hBw hv4 hgrow8 hat8 (by simp) hlt8
              have hk8 := hkA.grown hownA (Nat.le_refl _) hBw hgrow8
              have hown8' : w8.ownsRow w.heap.size 3 1 (.slice (some ⟨g8, 0, none⟩) (kids.length + 1 + 1) cap8) (kids ++ [k.1, (leafM E.toks k.2).1]).length ((kids ++ [k.1, (leafM E.toks k.2).1]).map (Value.int .i64)) := by
                rw [List.map_append, List.length_append]; exact hown8
              have hv8 : ∀ b, (Value.slice (some ⟨g8, 0, none⟩) (kids.length + 1 + 1) cap8).ownBlock = some b → b ∈ R8 := fun b hb => by
                simp only [Value.ownBlock, Option.some.injEq] at hb; subst hb; exact hg8
              have hER8 : ∀ r ∈ E.R, r ∈ R8 := fun r hr => hR8 r (hER4 r hr)
              clear hpA hnw hkA hownA hgrow8 hat8 hlt8 hown7 hown8 hk47 hown4' hk4 hk5 hk6 hk7 hp4 hp5 hp6 hp7' HO4 HX4 HLF hR8 hv4 hER4 hg4
              go_wp2
              go_roundw
              case rel => exact ⟨r, m + 1, _, _, R8, by go_num, by omega, by simp; omega, HL2.out, hown8', hv8, hER8, (fun q => by simp at q), hp8, hk8, by rw [(leafM_ext E.toks k.2).2.2.1]; exact HCK.out⟩
              case measure => simp [intOf]; omega
            · have hl := HL.out
              rw [if_neg (fun q => hx4 q.2)] at hl
              injection hl with hl
              have HX4 := Lib.hid (next_is { E with R := R4 } HE.out ⟨#[44]⟩ k.2 false (eq_false_of_ne_true hx4))
              have HL2 := Lib.hid hl
              clear hl HL hf4 hx4
              go_wp2_with (go_at_call 55; refine (HO4.out _ hp4).mono ?_)
              rintro e w5 ⟨rfl, hp5, hk5⟩
              go_wp2_with (go_at_call 82; refine (HX4.out _ hp5).mono ?_)
              rintro e w6 ⟨rfl, hp6, hk6⟩
              have hown6 := own_kp (own_kp hown4' hk5) hk6
              go_wp2
              go_ret
              exact list_done hown6 hER4 hp6 ((hk4.trans hk5).trans hk6) HL2.out (fun q => by simp at q)
          · have hl := HL.out
            rw [if_neg (fun q => hf4 q.1)] at hl
            injection hl with hl
            have HO4 := Lib.hid (ok_no { E with R := R4 } k.2 hf4)
            have HL2 := Lib.hid hl
            clear hl HL hf4
            go_wp2_with (go_at_call 55; refine (HO4.out _ hp4).mono ?_)
            rintro e w5 ⟨rfl, hp5, hk5⟩
            have hown5 := own_kp hown4' hk5
            go_wp2
            go_ret
            exact list_done hown5 hER4 hp5 (hk4.trans hk5) HL2.out (fun q => by simp at q)
      · have HO := Lib.hid (ok_no { E with R := R } s hf)
        have hl' : (kids, s) = res := by
          cases r with
          | zero => rw [listLoop, if_neg hf] at hl; injection hl
          | succ r => rw [listLoop, if_pos hf] at hl; injection hl
        have HL := Lib.hid hl'
        clear hl hl' hf
        go_wp2_with (go_at_call 55; refine (HO.out _ hps).mono ?_)
        rintro e w2 ⟨rfl, hp2, hk2⟩
        have hown2 := own_kp hown hk2
        go_wp2
        go_ret
        exact list_done hown2 hER hp2 (hks.trans hk2) HL.out HNIL.out
end Go.Proofs.YtemkhbmkaalgdaaGreatDoor
