/- The walks of the code that the claim reaches, and the plain laws: ParseW4, ParseW5, ParseLaws2, ParseW6. No condition of ours. -/
import Derived.Test.YtdjkibbnkklajaaGreatDoorM08
import Derived.Test.YtdjkibbnkklajaaGreatDoorM02
namespace Go.Proofs.YtdjkibbnkklajaaGreatDoor
open Go.RowKit

/-- v is a slice of the texts l. -/
def StrsAt (w : World) (v : Value) (l : List (List UInt8)) : Prop :=
  ∃ b off cap, v = .slice (some ⟨b, off, none⟩) l.length cap ∧ b < w.heap.size ∧ ∀ j, (h : j < l.length) → w.cell? ⟨b, off + j, none⟩ = some (.string ⟨l[j].toArray⟩)

theorem StrsAt.later {w w' : World} {v : Value} {l : List (List UInt8)} (h : StrsAt w v l) (hb : Below w.heap.size w w') : StrsAt w' v l := by
  obtain ⟨b, off, cap, hv, hlt, hc⟩ := h
  exact ⟨b, off, cap, hv, by have := hb.size; omega, fun j hj => (hb.cell (p := ⟨b, off + j, none⟩) hlt).trans (hc j hj)⟩

def boxL (l : List (List UInt8)) : List ByteArray := l.map fun x => ⟨x.toArray⟩

theorem contains_box (l : List (List UInt8)) (x : List UInt8) : Lib.containsS (boxL l) ⟨x.toArray⟩ = decide (x ∈ l) := by
  by_cases h : x ∈ l
  · rw [decide_eq_true h]
    exact (Lib.containsS_iff _ _).2 (List.mem_map.2 ⟨x, h, rfl⟩)
  · rw [decide_eq_false h, ← Bool.not_eq_true]
    intro q
    obtain ⟨y, hy, e⟩ := List.mem_map.1 ((Lib.containsS_iff _ _).1 q)
    have : y = x := by
      have := congrArg (fun b : ByteArray => b.data.toList) e
      simpa using this
    exact h (this ▸ hy)

theorem contains_any (v : Value) (l : List (List UInt8)) (x : List UInt8) (w : World) (h : StrsAt w v l) (hn : l.length ≤ 1000) :
    Calls Tryz.prog 82 #[v, .string ⟨x.toArray⟩] w fun e w' => e = .returned (.bool (decide (x ∈ l))) ∧ w' = w := by
  obtain ⟨b, off, cap, rfl, _, hc⟩ := h
  refine (Tryz.slices_Contains_string b off l.length cap (boxL l) ⟨x.toArray⟩ w (by simp [boxL]) (by omega) (fun j hj => ?_)).mono ?_
  · have hj' : j < l.length := by simpa [boxL] using hj
    rw [hc j hj']
    simp [boxL, List.getD_eq_getElem?_getD, hj']
  · rintro e w' ⟨rfl, rfl⟩
    refine ⟨ret_bool ?_, rfl⟩
    rw [List.take_of_length_le (by simp [boxL]), contains_box]

set_option maxHeartbeats 1000000 in
set_option maxRecDepth 100000 in
theorem next_any (E : PEnv) (v : Value) (l : List (List UInt8)) (st : PSt) (w : World) (h : PW E st w) (hv : StrsAt w v l) (h0 : 0 < E.toks.length) (hn : E.toks.length ≤ 1099511627776) (hl : l.length ≤ 1000) :
    Calls Tryz.prog 51 #[.pointer (some ⟨E.pb, 0, none⟩), v] w fun e w' => e = .returned (.bool (nextF E.toks st l)) ∧ Below w.heap.size w w' := by
  have hp := peek_any E.R E.B E.bb E.tv E.toks st.used st.nodes w h.2.1 h.2.2.1 h0 h.2.2.2.2.1 hn
  obtain ⟨c0, _, _, _, _, _⟩ := h.cells
  unfold nextF
  generalize peekF E.toks st.used = t at hp
  obtain ⟨k, x, y, q⟩ := t
  rw [tokAgg] at hp
  simp only
  have HP := Lib.hid hp
  have HV := Lib.hid hv
  have hsl : ∃ ao n cap, v = .slice ao n cap := by obtain ⟨b, off, cap, rfl, _⟩ := hv; exact ⟨_, _, _, rfl⟩
  obtain ⟨ao, n, cap, rfl⟩ := hsl
  clear hp hv h
  by_cases k2 : k = 2
  · subst k2
    have hq : ((2 == 2 || 2 == 4) && decide (y ∈ l)) = decide (y ∈ l) := by simp
    rw [hq]
    clear hq
    go_enter Tryz.func51, Tryz.ntmps51
    go_wp2_with (first | (go_at_call 55; refine HP.out.mono ?_; rintro e w1 ⟨rfl, hb⟩) | (go_at_call 82; refine (contains_any _ l y _ ?_ hl).mono ?_))
    · exact HV.out.later (hb.alloc hb.size _)
    · rintro e w2 ⟨rfl, rfl⟩
      go_wp2
      go_ret
      exact ⟨rfl, hb.alloc hb.size _⟩
  by_cases k4 : k = 4
  · subst k4
    have hq : ((4 == 2 || 4 == 4) && decide (y ∈ l)) = decide (y ∈ l) := by simp
    rw [hq]
    clear hq
    go_enter Tryz.func51, Tryz.ntmps51
    go_wp2_with (first | (go_at_call 55; refine HP.out.mono ?_; rintro e w1 ⟨rfl, hb⟩) | (go_at_call 82; refine (contains_any _ l y _ ?_ hl).mono ?_))
    · exact HV.out.later (hb.alloc hb.size _)
    · rintro e w2 ⟨rfl, rfl⟩
      go_wp2
      go_ret
      exact ⟨rfl, hb.alloc hb.size _⟩
  have hq : ((k == 2 || k == 4) && decide (y ∈ l)) = false := by simp [k2, k4]
  have d2 : ((k : Int) == 2) = false := by rw [← Bool.not_eq_true, beq_iff_eq]; omega
  have d4 : ((k : Int) == 4) = false := by rw [← Bool.not_eq_true, beq_iff_eq]; omega
  rw [hq]
  clear hq k2 k4
  go_enter Tryz.func51, Tryz.ntmps51
  go_wp2_with (first | (go_at_call 55; refine HP.out.mono ?_; rintro e w1 ⟨rfl, hb⟩))
  go_ret
  exact ⟨rfl, hb.alloc hb.size _⟩

theorem leafB_M (toks : List Tok) (st : PSt) : leafM toks st = ((leafB toks.length st.used st.nodes).1, { st with used := (leafB toks.length st.used st.nodes).2.1, nodes := (leafB toks.length st.used st.nodes).2.2 }) := by
  unfold leafM leafB
  split <;> rfl

/-- The parser's use of Leaf. -/
theorem pleaf_any (E : PEnv) (st : PSt) (w : World) (h : PW E st w) (h0 : 0 < E.toks.length) (hn : E.toks.length ≤ 1099511627776) (hl : st.nodes.length + 1 ≤ 1099511627776) :
    Calls Tryz.prog 52 #[.pointer (some ⟨E.bb, 0, none⟩)] w (PPost E (leafM E.toks st) w) := by
  obtain ⟨ao, cap, hv, _, _⟩ := h.2.2.1.form (fun _ => rfl)
  have hb := h.2.1
  rw [hv] at hb
  refine (leaf_any E.R E.B E.bb ao E.toks.length cap st.used st.nodes w hb h.2.2.2.2.1 hn hl).mono ?_
  rintro e w' ⟨rfl, hb', hk⟩
  rw [← hv] at hb'
  rw [leafB_M]
  refine ⟨rfl, h.builder hb' hk ?_, hk.kp⟩
  have := h.2.2.2.2.1
  unfold leafB
  split
  · exact this
  · simp only; omega

theorem badK_any (n : Nat) (ks : List Int) : ks.any (badK n) = ks.any (fun k => decide (k < 0) || decide ((n : Int) ≤ k)) := rfl

theorem rawB_M (kind : Int) (ks : List Int) (st : PSt) : rawM kind ks st = ((rawB kind ks st.nodes).1, { st with nodes := (rawB kind ks st.nodes).2 }) := by
  unfold rawM rawB
  rw [badK_any]
  split <;> rfl

/-- The parser's use of Node. -/
theorem praw_any (E : PEnv) (kind : Int) (v : Value) (ks : List Int) (st : PSt) (w : World) (h : PW E st w) (hv : IntsAt w v ks) (hk : ks.length ≤ 1099511627776) (hl : st.nodes.length + 1 ≤ 1099511627776) :
    Calls Tryz.prog 54 #[.pointer (some ⟨E.bb, 0, none⟩), .int .i64 kind, v] w (PPost E (rawM kind ks st) w) := by
  refine (node_any E.R E.B E.bb E.tv st.used st.nodes kind v ks w h.2.1 hv h.2.2.2.2.2 hk hl).mono ?_
  rintro e w' ⟨rfl, hb', hk⟩
  rw [rawB_M]
  exact ⟨rfl, h.builder hb' hk h.2.2.2.2.1, hk.kp⟩

set_option maxHeartbeats 1000000 in
set_option maxRecDepth 100000 in
theorem pnode_any (E : PEnv) (kind : Int) (v : Value) (ks : List Int) (st : PSt) (w : World) (h : PW E st w) (hv : IntsAt w v ks) (hk : ks.length ≤ 1099511627776) (hl : st.nodes.length + 1 ≤ 1099511627776) :
    Calls Tryz.prog 31 #[.pointer (some ⟨E.pb, 0, none⟩), .int .i64 kind, v] w (PPost E (nodeM kind ks st) w) := by
  have HO := Lib.hid (ok_any E st w h)
  have HN := Lib.hid (praw_any E kind v ks st w h hv hk hl)
  obtain ⟨c0, _, _, _, _, _⟩ := h.cells
  have H := Lib.hid h
  by_cases hf : st.fE = 0
  · have hq : nodeM kind ks st = rawM kind ks st := by rw [nodeM, if_pos hf]
    rw [hq]
    rw [show okB st = true from decide_eq_true hf] at HO
    clear hq hf h hv
    go_enter Tryz.func31, Tryz.ntmps31
    go_wp2_with (first | (go_at_call 28; refine HO.out.mono ?_; rintro e w1 ⟨rfl, rfl⟩) | (go_at_call 54; refine HN.out.mono ?_))
    rintro e w2 ⟨rfl, hp, hk2⟩
    go_wp2
    go_ret
    exact ⟨rfl, hp, hk2⟩
  · have hq : nodeM kind ks st = (0, st) := by rw [nodeM, if_neg hf]
    rw [hq]
    rw [show okB st = false from decide_eq_false hf] at HO
    clear hq hf h hv
    go_enter Tryz.func31, Tryz.ntmps31
    go_wp2_with (first | (go_at_call 28; refine HO.out.mono ?_; rintro e w1 ⟨rfl, rfl⟩))
    go_ret
    exact ⟨rfl, H.out, Kp.refl _ _⟩
end Go.Proofs.YtdjkibbnkklajaaGreatDoor

namespace Go.Proofs.YtdjkibbnkklajaaGreatDoor
open Go.RowKit

/-- A parser with tokens. -/
def PEnv.ok (E : PEnv) : Prop := 0 < E.toks.length ∧ E.toks.length ≤ 1099511627776 ∧ E.depth ≤ 1000

theorem pfail_any (E : PEnv) (hE : E.ok) (c : Nat) (st : PSt) (w : World) (h : PW E st w) :
    Calls Tryz.prog 56 #[.pointer (some ⟨E.pb, 0, none⟩), .int .i64 c] w (PPost E (0, failM E.toks c st) w) := fail_any E c st w h hE.1 hE.2.1

set_option maxHeartbeats 1000000 in
set_option maxRecDepth 100000 in
theorem must_any (E : PEnv) (hE : E.ok) (v : Value) (l : List (List UInt8)) (st : PSt) (w : World) (h : PW E st w) (hv : StrsAt w v l) (hl : l.length ≤ 1000) (hn : st.nodes.length + 1 ≤ 1099511627776) :
    Calls Tryz.prog 53 #[.pointer (some ⟨E.pb, 0, none⟩), v] w (PPost E (mustM E.toks l st) w) := by
  have HO := Lib.hid (ok_any E st w h)
  have HX := Lib.hid (next_any E v l st w h hv hE.1 hE.2.1 hl)
  have HF := Lib.hid (fun w => pfail_any E hE 22 st w)
  have H := Lib.hid h
  have hsl : ∃ ao n cap, v = .slice ao n cap := by obtain ⟨b, off, cap, rfl, _⟩ := hv; exact ⟨_, _, _, rfl⟩
  obtain ⟨ao, n, cap, rfl⟩ := hsl
  clear h hv
  by_cases hf : st.fE = 0
  · rw [show okB st = true from decide_eq_true hf] at HO
    cases hx : nextF E.toks st l with
    | true =>
      rw [hx] at HX
      have hq : mustM E.toks l st = leafM E.toks st := by rw [mustM, if_pos ⟨hf, hx⟩]
      rw [hq]
      clear hq hf hx
      go_enter Tryz.func53, Tryz.ntmps53
      go_wp2_with (first | (go_at_call 28; refine HO.out.mono ?_; rintro e w1 ⟨rfl, rfl⟩) | (go_at_call 51; refine HX.out.mono ?_))
      rintro e w2 ⟨rfl, hb⟩
      have h2 := H.out.later hb
      obtain ⟨c0, _, _, _, _, _⟩ := h2.cells
      have HL := Lib.hid (pleaf_any E st w2 h2 hE.1 hE.2.1 hn)
      clear h2
      go_wp2_with (first | (go_at_call 52; refine HL.out.mono ?_))
      rintro e w3 ⟨rfl, hp, hk⟩
      go_wp2
      go_ret
      exact ⟨rfl, hp, (Kp.of hb H.out.B_le).trans hk⟩
    | false =>
      rw [hx] at HX
      have hq : mustM E.toks l st = (0, failM E.toks 22 st) := by rw [mustM, if_neg (fun q => by rw [hx] at q; cases q.2)]
      rw [hq]
      clear hq hf hx
      go_enter Tryz.func53, Tryz.ntmps53
      go_wp2_with (first | (go_at_call 28; refine HO.out.mono ?_; rintro e w1 ⟨rfl, rfl⟩) | (go_at_call 51; refine HX.out.mono ?_; rintro e w2 ⟨rfl, hb⟩) | (go_at_call 56; refine (HF.out _ (H.out.later hb)).mono ?_))
      rintro e w3 ⟨rfl, hp, hk⟩
      go_wp2
      go_ret
      exact ⟨rfl, hp, (Kp.of hb H.out.B_le).trans hk⟩
  · rw [show okB st = false from decide_eq_false hf] at HO
    have hq : mustM E.toks l st = (0, failM E.toks 22 st) := by rw [mustM, if_neg (fun q => hf q.1)]
    rw [hq]
    clear hq hf
    go_enter Tryz.func53, Tryz.ntmps53
    go_wp2_with (first | (go_at_call 28; refine HO.out.mono ?_; rintro e w1 ⟨rfl, rfl⟩) | (go_at_call 56; refine (HF.out _ H.out).mono ?_))
    rintro e w3 ⟨rfl, hp, hk⟩
    go_wp2
    go_ret
    exact ⟨rfl, hp, hk⟩

set_option maxHeartbeats 1000000 in
set_option maxRecDepth 100000 in
theorem kind_any (E : PEnv) (hE : E.ok) (k : Nat) (st : PSt) (w : World) (h : PW E st w) (hn : st.nodes.length + 1 ≤ 1099511627776) :
    Calls Tryz.prog 32 #[.pointer (some ⟨E.pb, 0, none⟩), .int .i64 k] w (PPost E (kindM E.toks k st) w) := by
  have HO := Lib.hid (ok_any E st w h)
  have hp := peek_any E.R E.B E.bb E.tv E.toks st.used st.nodes w h.2.1 h.2.2.1 hE.1 h.2.2.2.2.1 hE.2.1
  have HF := Lib.hid (fun w => pfail_any E hE 22 st w)
  have H := Lib.hid h
  have tf := tokField0
  obtain ⟨c0, _, _, _, _, _⟩ := h.cells
  clear h
  unfold kindM
  generalize peekF E.toks st.used = t at hp
  obtain ⟨kt, x, y, q⟩ := t
  rw [tokAgg] at hp
  simp only
  have HP := Lib.hid hp
  clear hp
  by_cases hf : st.fE = 0
  · rw [show okB st = true from decide_eq_true hf] at HO
    by_cases hk : kt = k
    · have t1 : ((kt : Int) != (k : Int)) = false := by rw [hk]; simp
      rw [if_pos ⟨hf, hk⟩]
      clear hf hk
      go_enter Tryz.func32, Tryz.ntmps32
      go_wp2_with (first | (go_at_call 28; refine HO.out.mono ?_; rintro e w1 ⟨rfl, rfl⟩) | (go_at_call 55; refine HP.out.mono ?_))
      rintro e w2 ⟨rfl, hb⟩
      have h2 := H.out.later hb
      obtain ⟨d0, _, _, _, _, _⟩ := h2.cells
      have HL := Lib.hid (pleaf_any E st w2 h2 hE.1 hE.2.1 hn)
      clear h2
      go_wp2_with (first | (go_at_call 52; refine HL.out.mono ?_))
      rintro e w3 ⟨rfl, hp, hk⟩
      go_wp2
      go_ret
      exact ⟨rfl, hp, (Kp.of hb H.out.B_le).trans hk⟩
    · have t1 : ((kt : Int) != (k : Int)) = true := by rw [bne_iff_ne]; omega
      rw [if_neg (fun q => hk q.2)]
      clear hf hk
      go_enter Tryz.func32, Tryz.ntmps32
      go_wp2_with (first | (go_at_call 28; refine HO.out.mono ?_; rintro e w1 ⟨rfl, rfl⟩) | (go_at_call 55; refine HP.out.mono ?_; rintro e w2 ⟨rfl, hb⟩) | (go_at_call 56; refine (HF.out _ (H.out.later hb)).mono ?_))
      rintro e w3 ⟨rfl, hp, hk⟩
      go_wp2
      go_ret
      exact ⟨rfl, hp, (Kp.of hb H.out.B_le).trans hk⟩
  · rw [show okB st = false from decide_eq_false hf] at HO
    rw [if_neg (fun q => hf q.1)]
    clear hf
    go_enter Tryz.func32, Tryz.ntmps32
    go_wp2_with (first | (go_at_call 28; refine HO.out.mono ?_; rintro e w1 ⟨rfl, rfl⟩) | (go_at_call 56; refine (HF.out _ H.out).mono ?_))
    rintro e w3 ⟨rfl, hp, hk⟩
    go_wp2
    go_ret
    exact ⟨rfl, hp, hk⟩

/-- What deep hands back. -/
def DPost (E : PEnv) (st : PSt) (w : World) (e : Ending) (w' : World) : Prop := e = .returned (.bool (!okB st)) ∧ PW E st w' ∧ Kp E.B w w'

set_option maxHeartbeats 1000000 in
set_option maxRecDepth 100000 in
theorem deep_any (E : PEnv) (hE : E.ok) (nest : Nat) (st : PSt) (w : World) (h : PW E st w) :
    Calls Tryz.prog 49 #[.pointer (some ⟨E.pb, 0, none⟩), .int .i64 nest] w (DPost E (deepM E.toks E.depth nest st) w) := by
  have HF := Lib.hid (fun w => pfail_any E hE 23 st w)
  have H := Lib.hid h
  obtain ⟨_, c1, _, _, _, _⟩ := h.cells
  by_cases hd : E.depth < nest
  · have d1 : decide (E.depth < nest) = true := decide_eq_true hd
    have hq : deepM E.toks E.depth nest st = failM E.toks 23 st := by rw [deepM, if_pos hd]
    rw [hq]
    clear hq hd h
    go_enter Tryz.func49, Tryz.ntmps49
    go_wp2_with (first | (go_at_call 56; refine (HF.out _ H.out).mono ?_))
    rintro e w2 ⟨rfl, hp, hk⟩
    have HO := Lib.hid (ok_any E _ w2 hp)
    go_wp2_with (first | (go_at_call 28; refine HO.out.mono ?_; rintro e w3 ⟨rfl, rfl⟩))
    go_ret
    exact ⟨rfl, hp, hk⟩
  · have d1 : decide (E.depth < nest) = false := decide_eq_false hd
    have hq : deepM E.toks E.depth nest st = st := by rw [deepM, if_neg hd]
    rw [hq]
    have HO := Lib.hid (ok_any E st w h)
    clear hq hd h
    go_enter Tryz.func49, Tryz.ntmps49
    go_wp2_with (first | (go_at_call 28; refine HO.out.mono ?_; rintro e w3 ⟨rfl, rfl⟩))
    go_ret
    exact ⟨rfl, H.out, Kp.refl _ _⟩
end Go.Proofs.YtdjkibbnkklajaaGreatDoor

namespace Go.Proofs.YtdjkibbnkklajaaGreatDoor

theorem deep_eq {toks : List Tok} {d d' n : Nat} {st : PSt} (hdd : d ≤ d') (h : (deepM toks d n st).fE = 0) : deepM toks d' n st = deepM toks d n st := by
  unfold deepM at h ⊢
  split at h
  · exact absurd h (failM_fE (by decide) st)
  · rename_i hn
    rw [if_neg hn, if_neg (by omega)]

theorem listLoop_deeper (toks : List Tok) (one one' : PSt → Option (Int × PSt)) (h1 : ∀ s k, one s = some k → PExt s k.2) (h2 : ∀ s k, one s = some k → k.2.fE = 0 → one' s = some k) : ∀ (r : Nat) (kids : List Int) (st : PSt) (l : List Int × PSt), listLoop toks one r kids st = some l → l.2.fE = 0 → listLoop toks one' r kids st = some l
  | 0, kids, st, l, h, _ => h
  | r + 1, kids, st, l, h, hl => by
    rw [listLoop] at h ⊢
    split at h
    · rename_i hf; rw [if_pos hf]; exact h
    · rename_i hf
      rw [if_neg hf]
      obtain ⟨k, hk, h⟩ := Option.bind_eq_some_iff.1 h
      have hk0 : k.2.fE = 0 := by
        split at h
        · exact ((leafM_ext toks k.2).trans (listLoop_ext toks one h1 r _ _ _ h)).zero hl
        · injection h with h; subst h; exact hl
      rw [h2 _ _ hk hk0, Option.bind_some]
      split at h
      · rename_i hc; rw [if_pos hc]; exact listLoop_deeper toks one one' h1 h2 r _ _ _ h hl
      · rename_i hc; rw [if_neg hc]; exact h

theorem listM_deeper (toks : List Tok) (one one' : PSt → Option (Int × PSt)) (h1 : ∀ s k, one s = some k → PExt s k.2) (h2 : ∀ s k, one s = some k → k.2.fE = 0 → one' s = some k) (st : PSt) (l : List Int × PSt) (h : listM toks one st = some l) (hl : l.2.fE = 0) : listM toks one' st = some l := by
  unfold listM at h ⊢
  split at h
  · rename_i hc; rw [if_pos hc]; exact h
  · rename_i hc; rw [if_neg hc]; exact listLoop_deeper toks one one' h1 h2 _ _ _ _ h hl

theorem run_deeper (toks : List Tok) (d d' : Nat) (hdd : d ≤ d') : ∀ (g : Nat) (t : Task) (st : PSt) (r : Int × PSt), run toks d g t st = some r → r.2.fE = 0 → run toks d' g t st = some r
  | 0, _, _, _, h, _ => by rw [run] at h; cases h
  | g + 1, .expr nest, st, r, h, hr => by
    have ih := run_deeper toks d d' hdd g
    have ex := run_ext toks d g
    have hd0 : (deepM toks d nest st).fE = 0 := by
      apply Classical.byContradiction
      intro q
      rw [run, if_pos q] at h
      injection h with h; subst h
      exact q hr
    rw [run] at h ⊢
    rw [deep_eq hdd hd0]
    generalize deepM toks d nest st = s at h hd0
    rw [if_neg (by simp [hd0])] at h ⊢
    split at h
    · rename_i hc; rw [if_pos hc]; exact ih _ _ _ h hr
    rename_i hc; rw [if_neg hc]
    split at h
    · rename_i hc; rw [if_pos hc]
      obtain ⟨x, h1, h⟩ := Option.bind_eq_some_iff.1 h
      obtain ⟨f, h2, h⟩ := Option.bind_eq_some_iff.1 h
      injection h with h; subst h
      have z2 := (nodeM_ext _ _ _).zero hr
      have z1 := ((mustM_ext _ _ _).trans (ex _ _ _ h2)).zero z2
      rw [ih _ _ _ h1 z1, Option.bind_some, ih _ _ _ h2 z2, Option.bind_some]
    rename_i hc; rw [if_neg hc]
    split at h
    · rename_i hc; rw [if_pos hc]
      obtain ⟨x, h1, h⟩ := Option.bind_eq_some_iff.1 h
      obtain ⟨y, h2, h⟩ := Option.bind_eq_some_iff.1 h
      obtain ⟨f, h3, h⟩ := Option.bind_eq_some_iff.1 h
      injection h with h; subst h
      have z3 := (nodeM_ext _ _ _).zero hr
      have z2 := ((mustM_ext _ _ _).trans (ex _ _ _ h3)).zero z3
      have z1 := ((mustM_ext _ _ _).trans (ex _ _ _ h2)).zero z2
      rw [ih _ _ _ h1 z1, Option.bind_some, ih _ _ _ h2 z2, Option.bind_some, ih _ _ _ h3 z3, Option.bind_some]
    rename_i hc; rw [if_neg hc]
    split at h
    · rename_i hc; rw [if_pos hc]
      obtain ⟨x, h1, h⟩ := Option.bind_eq_some_iff.1 h
      obtain ⟨f, h2, h⟩ := Option.bind_eq_some_iff.1 h
      injection h with h; subst h
      have z2 := (nodeM_ext _ _ _).zero hr
      have z1 := ((mustM_ext _ _ _).trans (ex _ _ _ h2)).zero z2
      rw [ih _ _ _ h1 z1, Option.bind_some, ih _ _ _ h2 z2, Option.bind_some]
    · rename_i hc; rw [if_neg hc]; exact ih _ _ _ h hr
  | g + 1, .formula nest, st, r, h, hr => by
    have ih := run_deeper toks d d' hdd g
    have ex := run_ext toks d g
    rw [run] at h ⊢
    obtain ⟨a, h1, h⟩ := Option.bind_eq_some_iff.1 h
    split at h
    · rename_i hn
      have hd0 : (deepM toks d (nest + 1) (leafM toks a.2).2).fE = 0 := by
        apply Classical.byContradiction
        intro q
        rw [if_pos q] at h
        injection h with h; subst h
        exact q hr
      rw [if_neg (by simp [hd0])] at h
      obtain ⟨b, h2, h⟩ := Option.bind_eq_some_iff.1 h
      injection h with h; subst h
      have z2 := (nodeM_ext _ _ _).zero hr
      have z1 := ((leafM_ext toks a.2).trans (deepM_ext _ _ _ _)).zero hd0
      rw [ih _ _ _ h1 z1, Option.bind_some, if_pos hn, deep_eq hdd hd0, if_neg (by simp [hd0]), ih _ _ _ h2 z2, Option.bind_some]
    · rename_i hn
      injection h with h; subst h
      rw [ih _ _ _ h1 hr, Option.bind_some, if_neg hn]
  | g + 1, .part l nest, st, r, h, hr => by
    have ih := run_deeper toks d d' hdd g
    rw [run] at h ⊢
    split at h
    · rename_i hc; rw [if_pos hc]; exact ih _ _ _ h hr
    · rename_i hc; rw [if_neg hc]
      split at h
      · rename_i hc; rw [if_pos hc]; exact ih _ _ _ h hr
      · rename_i hc; rw [if_neg hc]; exact ih _ _ _ h hr
  | g + 1, .row l nest, st, r, h, hr => by
    have ih := run_deeper toks d d' hdd g
    have ex := run_ext toks d g
    rw [run] at h ⊢
    obtain ⟨a, h1, h⟩ := Option.bind_eq_some_iff.1 h
    rw [ih _ _ _ h1 ((ex _ _ _ h).zero hr), Option.bind_some]
    exact ih _ _ _ h hr
  | g + 1, .loop l nest a, st, r, h, hr => by
    have ih := run_deeper toks d d' hdd g
    have ex := run_ext toks d g
    rw [run] at h ⊢
    split at h
    · rename_i hn
      rw [if_pos hn]
      obtain ⟨b, h1, h⟩ := Option.bind_eq_some_iff.1 h
      have z : (nodeM 10 [a, (leafM toks st).1, b.1] b.2).2.fE = 0 := by
        split at h
        · injection h with h; subst h; exact hr
        · exact (ex _ _ _ h).zero hr
      rw [ih _ _ _ h1 ((nodeM_ext _ _ _).zero z), Option.bind_some]
      split at h
      · rename_i hc; rw [if_pos hc]; exact h
      · rename_i hc; rw [if_neg hc]; exact ih _ _ _ h hr
    · rename_i hn
      rw [if_neg hn]; exact h
  | g + 1, .neg nest, st, r, h, hr => by
    have ih := run_deeper toks d d' hdd g
    rw [run] at h ⊢
    split at h
    · rename_i hn
      rw [if_pos hn]
      have hd0 : (deepM toks d (nest + 1) (leafM toks st).2).fE = 0 := by
        apply Classical.byContradiction
        intro q
        rw [if_pos q] at h
        injection h with h; subst h
        exact q hr
      rw [if_neg (by simp [hd0])] at h
      obtain ⟨b, h2, h⟩ := Option.bind_eq_some_iff.1 h
      injection h with h; subst h
      rw [deep_eq hdd hd0, if_neg (by simp [hd0]), ih _ _ _ h2 ((nodeM_ext _ _ _).zero hr), Option.bind_some]
    · rename_i hn
      rw [if_neg hn]; exact ih _ _ _ h hr
  | g + 1, .factor nest, st, r, h, hr => by
    have ih := run_deeper toks d d' hdd g
    rw [run] at h ⊢
    split at h
    · rename_i hn
      rw [if_pos hn]
      have hd0 : (deepM toks d (nest + 1) (leafM toks st).2).fE = 0 := by
        apply Classical.byContradiction
        intro q
        rw [if_pos q] at h
        injection h with h; subst h
        exact q hr
      rw [if_neg (by simp [hd0])] at h
      obtain ⟨b, h2, h⟩ := Option.bind_eq_some_iff.1 h
      injection h with h; subst h
      rw [deep_eq hdd hd0, if_neg (by simp [hd0]), ih _ _ _ h2 ((nodeM_ext _ _ _).zero hr), Option.bind_some]
    · rename_i hn
      rw [if_neg hn]; exact ih _ _ _ h hr
  | g + 1, .atom nest, st, r, h, hr => by
    have ih := run_deeper toks d d' hdd g
    rw [run] at h ⊢
    split at h
    · rename_i hc; rw [if_pos hc]; exact h
    rename_i hc; rw [if_neg hc]
    split at h
    · rename_i hc; rw [if_pos hc]; exact h
    rename_i hc; rw [if_neg hc]
    split at h
    · rename_i hc; rw [if_pos hc]; exact h
    rename_i hc; rw [if_neg hc]
    split at h
    · rename_i hc; rw [if_pos hc]; exact h
    rename_i hc; rw [if_neg hc]
    split at h
    · rename_i hc; rw [if_pos hc]
      obtain ⟨b, h1, h⟩ := Option.bind_eq_some_iff.1 h
      injection h with h; subst h
      rw [ih _ _ _ h1 (((mustM_ext _ _ _).trans (nodeM_ext _ _ _)).zero hr), Option.bind_some]
    rename_i hc; rw [if_neg hc]
    split at h
    · rename_i hc; rw [if_pos hc]; exact ih _ _ _ h hr
    · rename_i hc; rw [if_neg hc]; exact h
  | g + 1, .name nest, st, r, h, hr => by
    have ih := run_deeper toks d d' hdd g
    have ex := run_ext toks d g
    rw [run] at h ⊢
    split at h
    · rename_i hc; rw [if_pos hc]; exact h
    · rename_i hc; rw [if_neg hc]
      obtain ⟨l, h1, h⟩ := Option.bind_eq_some_iff.1 h
      injection h with h; subst h
      rw [listM_deeper toks _ (fun s => run toks d' g (.expr (nest + 1)) s) (fun s k hk => ex _ _ _ hk) (fun s k hk hz => ih _ _ _ hk hz) _ _ h1 (((mustM_ext _ _ _).trans (nodeM_ext _ _ _)).zero hr), Option.bind_some]

theorem aloneM_deeper {toks : List Tok} {d d' g : Nat} {st : PSt} (hdd : d ≤ d') (h : aloneM toks d g = some st) (hs : st.fE = 0) : aloneM toks d' g = some st := by
  unfold aloneM at h ⊢
  obtain ⟨a, h1, h⟩ := Option.bind_eq_some_iff.1 h
  injection h with h; subst h
  rw [run_deeper toks d d' hdd g _ _ _ h1 (((kindM_ext _ _ _).trans (nodeM_ext _ _ _)).zero hs), Option.bind_some]
end Go.Proofs.YtdjkibbnkklajaaGreatDoor

namespace Go.Proofs.YtdjkibbnkklajaaGreatDoor
open Go.RowKit

theorem below_new (w : World) (o : Obj) : Below w.heap.size w (w.alloc o) := (Below.refl _ _).alloc (Nat.le_refl _) o

/-- A truth is handed back; the parser is as it was. -/
def NPost (E : PEnv) (st : PSt) (b : Bool) (w : World) (e : Ending) (w' : World) : Prop := e = .returned (.bool b) ∧ PW E st w' ∧ Kp E.B w w'

theorem strs_one (w : World) (b : ByteArray) : StrsAt (w.alloc (.cells #[.string b] 9)) (.slice (some ⟨w.heap.size, 0, none⟩) 1 1) [b.data.toList] := by
  refine ⟨w.heap.size, 0, 1, rfl, by simp, fun j hj => ?_⟩
  obtain rfl : j = 0 := by simpa using hj
  rw [Lib.cell_of_heap (heap_alloc_new _ _)]
  have : ByteArray.mk b.data.toList.toArray = b := by cases b; simp
  simp [this]

theorem strs_two (w : World) (b c : ByteArray) : StrsAt (w.alloc (.cells #[.string b, .string c] 9)) (.slice (some ⟨w.heap.size, 0, none⟩) 2 2) [b.data.toList, c.data.toList] := by
  refine ⟨w.heap.size, 0, 2, rfl, by simp, fun j hj => ?_⟩
  have h1 : ByteArray.mk b.data.toList.toArray = b := by cases b; simp
  have h2 : ByteArray.mk c.data.toList.toArray = c := by cases c; simp
  rw [Lib.cell_of_heap (heap_alloc_new _ _)]
  match j, hj with
  | 0, _ => simp [h1]
  | 1, _ => simp [h2]

theorem next_one (E : PEnv) (hE : E.ok) (b : ByteArray) (st : PSt) (w : World) (h : PW E st w) :
    Calls Tryz.prog 51 #[.pointer (some ⟨E.pb, 0, none⟩), .slice (some ⟨w.heap.size, 0, none⟩) 1 1] (w.alloc (.cells #[.string b] 9)) (NPost E st (nextF E.toks st [b.data.toList]) w) := by
  have hA := h.later (below_new w (.cells #[.string b] 9))
  refine (next_any E _ _ st _ hA (strs_one w b) hE.1 hE.2.1 (by simp)).mono ?_
  rintro e w' ⟨rfl, hb⟩
  exact ⟨rfl, hA.later hb, (Kp.of (below_new w _) h.B_le).trans (Kp.of hb hA.B_le)⟩

theorem next_two (E : PEnv) (hE : E.ok) (b c : ByteArray) (st : PSt) (w : World) (h : PW E st w) :
    Calls Tryz.prog 51 #[.pointer (some ⟨E.pb, 0, none⟩), .slice (some ⟨w.heap.size, 0, none⟩) 2 2] (w.alloc (.cells #[.string b, .string c] 9)) (NPost E st (nextF E.toks st [b.data.toList, c.data.toList]) w) := by
  have hA := h.later (below_new w (.cells #[.string b, .string c] 9))
  refine (next_any E _ _ st _ hA (strs_two w b c) hE.1 hE.2.1 (by simp)).mono ?_
  rintro e w' ⟨rfl, hb⟩
  exact ⟨rfl, hA.later hb, (Kp.of (below_new w _) h.B_le).trans (Kp.of hb hA.B_le)⟩

theorem must_one (E : PEnv) (hE : E.ok) (b : ByteArray) (st : PSt) (w : World) (h : PW E st w) (hn : st.nodes.length + 1 ≤ 1099511627776) :
    Calls Tryz.prog 53 #[.pointer (some ⟨E.pb, 0, none⟩), .slice (some ⟨w.heap.size, 0, none⟩) 1 1] (w.alloc (.cells #[.string b] 9)) (PPost E (mustM E.toks [b.data.toList] st) w) := by
  have hA := h.later (below_new w (.cells #[.string b] 9))
  refine (must_any E hE _ _ st _ hA (strs_one w b) (by simp) hn).mono ?_
  rintro e w' ⟨rfl, hp, hk⟩
  exact ⟨rfl, hp, (Kp.of (below_new w _) h.B_le).trans hk⟩

theorem ints_new (w : World) (ks : List Int) : IntsAt (w.alloc (.cells (ks.map (Value.int .i64)).toArray 3)) (.slice (some ⟨w.heap.size, 0, none⟩) ks.length ks.length) ks := by
  refine ⟨some ⟨w.heap.size, 0, none⟩, ks.length, rfl, Nat.le_refl _, fun _ => ⟨w.heap.size, 0, _, _, rfl, heap_alloc_new _ _, fun j hj => ?_⟩⟩
  simp [hj]

/-- A node over kids that were just laid. -/
theorem node_lit (E : PEnv) (kind : Int) (ks : List Int) (n : Nat) (cs : Array Value) (st : PSt) (w : World) (h : PW E st w) (hn : ks.length = n) (hc : (ks.map (Value.int .i64)).toArray = cs) (hk : n ≤ 1000) (hl : st.nodes.length + 1 ≤ 1099511627776) :
    Calls Tryz.prog 31 #[.pointer (some ⟨E.pb, 0, none⟩), .int .i64 kind, .slice (some ⟨w.heap.size, 0, none⟩) n n] (w.alloc (.cells cs 3)) (PPost E (nodeM kind ks st) w) := by
  subst hn hc
  have hA := h.later (below_new w (.cells (ks.map (Value.int .i64)).toArray 3))
  refine (pnode_any E kind _ ks st _ hA (ints_new w ks) (by omega) hl).mono ?_
  rintro e w' ⟨rfl, hp, hk⟩
  exact ⟨rfl, hp, (Kp.of (below_new w _) h.B_le).trans hk⟩

/-- The Go call of a task. -/
def taskCalls (E : PEnv) (r : Int × PSt) (w : World) : Task → Prop
  | .expr nest => Calls Tryz.prog 30 #[.pointer (some ⟨E.pb, 0, none⟩), .int .i64 nest] w (PPost E r w)
  | .formula nest => Calls Tryz.prog 50 #[.pointer (some ⟨E.pb, 0, none⟩), .int .i64 nest] w (PPost E r w)
  | .part l nest => Calls Tryz.prog 103 #[.pointer (some ⟨E.pb, 0, none⟩), .int .i64 l, .int .i64 nest] w (PPost E r w)
  | .row l nest => Calls Tryz.prog 81 #[.pointer (some ⟨E.pb, 0, none⟩), .int .i64 l, .int .i64 nest] w (PPost E r w)
  | .neg nest => Calls Tryz.prog 124 #[.pointer (some ⟨E.pb, 0, none⟩), .int .i64 nest] w (PPost E r w)
  | .factor nest => Calls Tryz.prog 125 #[.pointer (some ⟨E.pb, 0, none⟩), .int .i64 nest] w (PPost E r w)
  | .atom nest => Calls Tryz.prog 141 #[.pointer (some ⟨E.pb, 0, none⟩), .int .i64 nest] w (PPost E r w)
  | .name nest => Calls Tryz.prog 147 #[.pointer (some ⟨E.pb, 0, none⟩), .int .i64 nest] w (PPost E r w)
  | .loop _ _ _ => True

def nestOk (E : PEnv) : Task → Prop
  | .expr nest => nest ≤ E.depth + 1
  | .formula nest => nest ≤ E.depth
  | .part l nest => l ≤ 4 ∧ nest ≤ E.depth
  | .row l nest => l ≤ 4 ∧ nest ≤ E.depth
  | .neg nest => nest ≤ E.depth
  | .factor nest => nest ≤ E.depth
  | .atom nest => nest ≤ E.depth
  | .name nest => nest ≤ E.depth
  | .loop l nest _ => l ≤ 4 ∧ nest ≤ E.depth

/-- All tasks at some gas. -/
def AllT (E : PEnv) (g : Nat) : Prop := ∀ (t : Task) (st : PSt) (r : Int × PSt) (w : World), run E.toks E.depth g t st = some r → PW E st w → r.2.nodes.length + 1 ≤ 1099511627776 → nestOk E t → taskCalls E r w t
end Go.Proofs.YtdjkibbnkklajaaGreatDoor
