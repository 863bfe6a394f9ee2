/- The walk of the reference's Put. -/
import Derived.Test.YtofbhdpcpoclaaaSpotR1
import Derived.Test.YtofbhdpcpoclaaaSpotLaws
namespace Go.Proofs.Ytofbhdpcpoclaaa
open Go.RowKit

def RefPutOk (s : ByteArray) (l : List Edit) (w : World) (e : Ending) (w' : World) : Prop :=
  ∃ v', e = .returned (.tuple #[.string ⟨(putOut s.data.toList 0 l).toArray⟩, v']) ∧ Rec w'.heap.size w' v' 2 spanCells (putSpans 0 0 l) ∧ Below w.heap.size w w'

/-- The round's state: the first k edits are put in, what is ahead of place i is copied. -/
def RP (s : ByteArray) (l : List Edit) (i k : Nat) (o : ByteArray) (sps : List Span) : Prop :=
  k ≤ l.length ∧ sps.length = k ∧ (o.size : Int) ≤ 65536 + s.size ∧ (∃ c : Int, (o.size : Int) + s.size = i + c ∧ rightB s.size i c (l.drop k) = true) ∧
    o.data.toList ++ putOut s.data.toList i (l.drop k) = putOut s.data.toList 0 l ∧ sps ++ putSpans o.size i (l.drop k) = putSpans 0 0 l

theorem size_list (o : ByteArray) : o.data.toList.length = o.size := by cases o; rfl
theorem append_list (a b : ByteArray) : (a ++ b).data.toList = a.data.toList ++ b.data.toList := by simp

theorem rp_put {s : ByteArray} {l : List Edit} {i k : Nat} {o : ByteArray} {sps : List Span} (h : RP s l i k o sps) (hk : k < l.length) {e0 : Int} {t : ByteArray} (he : l[k] = (e0, t)) (hi : e0 = i) :
    RP s l i (k + 1) (o ++ t) (sps ++ [((o.size : Int), (o.size : Int) + t.size)]) := by
  obtain ⟨h1, h2, h3, ⟨c, h4, h5⟩, h6, h7⟩ := h
  subst hi
  rw [List.drop_eq_getElem_cons hk, he] at h5 h6 h7
  obtain ⟨q1, q2, q3, q4, q5⟩ := (rightB_cons _ _ _ _ _).1 h5
  simp only at q1 q2 q3 q4 q5
  have hsz : (o ++ t).size = o.size + t.size := by rw [← size_list, append_list, List.length_append, size_list, size_list]
  refine ⟨by omega, by simp [h2], by omega, ⟨c + t.size, by omega, q5⟩, ?_, ?_⟩
  · rw [← h6, putOut, append_list, List.append_assoc]
    simp
  · rw [← h7, putSpans, hsz, List.append_assoc]
    simp

theorem rp_ahead {s : ByteArray} {l : List Edit} {i k : Nat} {c : Int} (h5 : rightB s.size i c (l.drop k) = true) (hne : ∀ h : k < l.length, (l[k]).1 ≠ i) (_hi : i ≤ s.size) :
    rightB s.size ((i + 1 : Nat) : Int) c (l.drop k) = true ∧ (∀ e r, l.drop k = e :: r → (i : Int) + 1 ≤ e.1 ∧ e.1 ≤ s.size) := by
  by_cases hk : k < l.length
  · have hn := hne hk
    rw [List.drop_eq_getElem_cons hk] at h5 ⊢
    obtain ⟨q1, q2, q3, q4, q5⟩ := (rightB_cons _ _ _ _ _).1 h5
    refine ⟨(rightB_cons _ _ _ _ _).2 ⟨by omega, q2, q3, q4, q5⟩, fun e r he => ?_⟩
    injection he with h1 h2
    subst h1
    omega
  · rw [List.drop_eq_nil_of_le (by omega)] at h5 ⊢
    refine ⟨?_, fun e r he => by cases he⟩
    rw [rightB] at h5 ⊢
    exact h5

theorem rp_step {s : ByteArray} {l : List Edit} {i k : Nat} {o : ByteArray} {sps : List Span} (h : RP s l i k o sps) (hne : ∀ h : k < l.length, (l[k]).1 ≠ i) (hi : i < s.size) :
    RP s l (i + 1) k (o ++ s.extract i (i + 1)) sps := by
  obtain ⟨h1, h2, h3, ⟨c, h4, h5⟩, h6, h7⟩ := h
  obtain ⟨g1, g2⟩ := rp_ahead h5 hne (by omega)
  have hx : (s.extract i (i + 1)).data.toList = [s.data.toList[i]'(by rw [size_list]; exact hi)] := by
    rw [Lib.extract_data, show i + 1 - i = 1 by omega, List.drop_eq_getElem_cons (by rw [size_list]; exact hi)]
    rfl
  have hsz : (o ++ s.extract i (i + 1)).size = o.size + 1 := by rw [← size_list, append_list, List.length_append, hx, size_list]; rfl
  have hle : o.size + 1 ≤ 65536 + s.size := by
    have hc : c ≤ 65536 := by
      cases hd : l.drop k with
      | nil => rw [hd, rightB] at h5; exact of_decide_eq_true h5
      | cons e r => rw [hd] at h5; have := (rightB_cons _ _ _ _ _).1 h5; omega
    omega
  refine ⟨h1, h2, by omega, ⟨c, by omega, g1⟩, ?_, ?_⟩
  · rw [← h6, append_list, hx, List.append_assoc]
    congr 1
    cases hd : l.drop k with
    | nil => rw [putOut, putOut, List.drop_eq_getElem_cons (i := i) (by rw [size_list]; exact hi)]; rfl
    | cons e r =>
      obtain ⟨z1, z2⟩ := g2 e r hd
      rw [putOut, putOut, ← List.append_assoc]
      congr 1
      rw [List.drop_eq_getElem_cons (i := i) (by rw [List.length_take, size_list]; omega), List.getElem_take]
      rfl
  · rw [← h7, hsz]
    congr 1
    cases hd : l.drop k with
    | nil => rw [putSpans, putSpans]
    | cons e r =>
      obtain ⟨z1, z2⟩ := g2 e r hd
      rw [putSpans, putSpans, show o.size + 1 + (e.1.toNat - (i + 1)) = o.size + (e.1.toNat - i) by omega]

theorem rp_last {s : ByteArray} {l : List Edit} {k : Nat} {o : ByteArray} {sps : List Span} (h : RP s l s.size k o sps) (hne : ∀ h : k < l.length, (l[k]).1 ≠ (s.size : Int)) :
    RP s l s.size k o sps ∧ k = l.length := by
  refine ⟨h, ?_⟩
  obtain ⟨h1, h2, h3, ⟨c, h4, h5⟩, h6, h7⟩ := h
  obtain ⟨g1, g2⟩ := rp_ahead h5 hne (Nat.le_refl _)
  rcases Nat.lt_or_ge k l.length with hk | hk
  · have := g2 _ _ (List.drop_eq_getElem_cons hk)
    omega
  · omega

theorem rp_end {s : ByteArray} {l : List Edit} {k : Nat} {o : ByteArray} {sps : List Span} (h : RP s l s.size k o sps) (hk : k = l.length) :
    o = ⟨(putOut s.data.toList 0 l).toArray⟩ ∧ sps = putSpans 0 0 l := by
  obtain ⟨h1, h2, h3, h4, h6, h7⟩ := h
  subst hk
  rw [List.drop_length] at h6 h7
  rw [putSpans, List.append_nil] at h7
  rw [putOut, List.drop_eq_nil_of_le (by rw [size_list]; exact Nat.le_refl _), List.append_nil] at h6
  exact ⟨bytes_ext (by rw [h6]), h7⟩

theorem rp_start {s : ByteArray} {l : List Edit} (hW : rightB s.size 0 s.size l = true) : RP s l 0 0 ByteArray.empty [] :=
  ⟨Nat.zero_le _, rfl, by simp; omega, ⟨s.size, by simp, hW⟩, rfl, rfl⟩

theorem ret_out {a b : ByteArray} {v : Value} (h : a = b) : Ending.returned (.tuple #[.string a, v]) = .returned (.tuple #[.string b, v]) := by rw [h]

set_option maxHeartbeats 2000000 in
set_option maxRecDepth 100000 in
theorem refPut_any (s : ByteArray) (v : Value) (l : List Edit) (w : World)
    (hs : s.size ≤ 1000000) (hl : l.length ≤ 1000000) (hv : Rec w.heap.size w v 2 editCells l) (hW : rightB s.size 0 s.size l = true) :
    Calls Try.prog 12 #[.string s, v] w (RefPutOk s l w) := by
  obtain ⟨i0, hi, hz0, hz1, hz2⟩ := info_parts Try.infoRSpan
  obtain ⟨ao, cap, rfl, hcap, hf⟩ := hv.form (fun _ => rfl)
  have HW := Lib.hid hW
  clear hW
  go_enter Try.func12, Try.ntmps12
  go_wp2
  go_loopw [6, 7, 8, 9] (fun out sp kk ii wr => ∃ (i k : Nat) (o : ByteArray) (sps : List Span), i ≤ s.size + 1 ∧ ii = .int .i64 i ∧ kk = .int .i64 k ∧ out = .string o ∧ (i ≤ s.size → RP s l i k o sps) ∧ (i = s.size + 1 → RP s l s.size k o sps ∧ k = l.length) ∧
      wr.ownsRow w.heap.size 46 2 sp k (sps.flatMap spanCells) ∧ Below w.heap.size w wr) (fun _ _ _ ii _ => s.size + 1 - (intOf ii).toNat)
  case atStart => exact ⟨0, 0, ByteArray.empty, [], by omega, rfl, rfl, rfl, fun _ => rp_start HW.out, fun h => by omega, World.ownsRow_nil _ _ _ _, Below.refl _ _⟩
  case round =>
    obtain ⟨i, k0, o0, sps0, hi1, rfl, rfl, rfl, hrp0, hrpe, hown0, hbl0⟩ := hrel
    have HE := Lib.hid hrpe
    have HR := Lib.hid hrp0
    clear hrp0 hrpe
    by_cases hlt : i ≤ s.size
    · go_wp2
      obtain ⟨wo, rfl⟩ : ∃ wo : World, wo = wr := ⟨_, rfl⟩
      go_loopw [6, 7, 8] (fun out sp kk wr => ∃ (k : Nat) (o : ByteArray) (sps : List Span), kk = .int .i64 k ∧ out = .string o ∧ RP s l i k o sps ∧
        wr.ownsRow w.heap.size 46 2 sp k (sps.flatMap spanCells) ∧ Below w.heap.size w wr) (fun _ _ kk _ => l.length - (intOf kk).toNat)
      case atStart => exact ⟨k0, o0, sps0, rfl, rfl, HR.out hlt, hown0, hbl0⟩
      case round =>
        obtain ⟨k, o, sps, rfl, rfl, hrp, hown, hbl⟩ := hrel
        have hz := hbl.size
        have hk1 : k ≤ l.length := hrp.1
        have ho1 := hrp.2.2.1
        have HP := Lib.hid hrp
        clear hrp hown0 hbl0
        by_cases hkl : k < l.length
        · obtain ⟨b, off, rfl, hb, hcell⟩ := hf (by omega)
          have hx0 := (hbl.cell (p := ⟨b, off + k * 2, none⟩) hb).trans (hcell k 0 _ hkl rfl)
          have hx1 := (hbl.cell (p := ⟨b, off + k * 2 + 1, none⟩) hb).trans (hcell k 1 _ hkl rfl)
          obtain ⟨e0, e1, hE⟩ : ∃ e0 e1, l[k] = (e0, e1) := ⟨_, _, rfl⟩
          rw [hE] at hx0 hx1
          simp only at hx0 hx1
          have he1 : e1.size ≤ 65536 := by
            obtain ⟨q1, q2, q3, ⟨c, q4, q5⟩, q6⟩ := HP.out
            rw [List.drop_eq_getElem_cons hkl, hE] at q5
            have := (rightB_cons _ _ _ _ _).1 q5
            simp only at this
            omega
          by_cases he : e0 = (i : Int)
          · have hb1 : (e0 == (i : Int)) = true := beq_iff_eq.2 he
            have hput := Lib.hid (rp_put HP.out hkl hE he)
            clear he hE hcell hf HR HE
            go_wp2_with (at_builtin; refine wpList_append_own _ rfl _ _ 36 rfl w.heap.size 46 i0 (.agg #[.int .i64 0, .int .i64 0]) 2 16 Try.underlying36 hi hz0 hz1 hz2 rfl (by decide) _ _ _ rfl (hown.alloc _) ⟨wr.heap.size, 0, none⟩ 1 1 [.int .i64 o.size, .int .i64 (o.size + e1.size)] rfl rfl ?c1 ?c2 ?c3 ?c4 ?c5 ?_)
            case c1 => exact cells_two (by go_simp) (by go_simp)
            case c2 => intro u hu; simp at hu; rcases hu with rfl | rfl <;> rfl
            case c3 => unfold maxLen; omega
            case c4 => omega
            case c5 => simp; omega
            intro v' w2 hown' hgrow _
            have hb2 : Below w.heap.size w w2 := (hbl.alloc hz _).grown hgrow (by simp; omega) (fun q hq => (hown.lt q hq).1)
            have hown2 : w2.ownsRow w.heap.size 46 2 v' (k + 1) ((sps ++ [((o.size : Int), (o.size : Int) + e1.size)]).flatMap spanCells) := by
              rw [List.flatMap_append]
              exact hown'
            have hx2 : w2.cell? ⟨b, off + k * 2 + 1, none⟩ = some (.string e1) := (hb2.cell (p := ⟨b, off + k * 2 + 1, none⟩) hb).trans ((hbl.cell (p := ⟨b, off + k * 2 + 1, none⟩) hb).symm.trans hx1)
            clear hgrow hown hown' hx0 hx1
            go_wp2
            go_roundw
            case rel => exact ⟨k + 1, _, _, by go_num, rfl, hput.out, hown2, hb2⟩
            case measure => simp [intOf]; omega
          · have hb1 : (e0 == (i : Int)) = false := beq_eq_false_iff_ne.2 he
            have hne : ∀ h : k < l.length, (l[k]).1 ≠ i := fun h => by rw [hE]; exact he
            by_cases hi2 : i < s.size
            · have hst := Lib.hid (rp_step HP.out hne hi2)
              clear hne he hE hcell hf HR HE
              go_wp2
              go_roundw
              case rel => exact ⟨i + 1, k, _, sps, by omega, by go_num, rfl, rfl, fun _ => hst.out, fun h => by omega, hown, hbl⟩
              case measure => simp [intOf]; omega
            · have his : i = s.size := by omega
              have hst := Lib.hid (rp_last (his ▸ HP.out) (his ▸ hne))
              clear hne he hE hcell hf HR HE
              go_wp2
              go_roundw
              case rel => exact ⟨i + 1, k, _, sps, by omega, by go_num, rfl, rfl, fun h => by omega, fun _ => hst.out, hown, hbl⟩
              case measure => simp [intOf]; omega
        · have hne : ∀ h : k < l.length, (l[k]).1 ≠ i := fun h => absurd h hkl
          by_cases hi2 : i < s.size
          · have hst := Lib.hid (rp_step HP.out hne hi2)
            clear hne hf HR HE
            go_wp2
            go_roundw
            case rel => exact ⟨i + 1, k, _, sps, by omega, by go_num, rfl, rfl, fun _ => hst.out, fun h => by omega, hown, hbl⟩
            case measure => simp [intOf]; omega
          · have his : i = s.size := by omega
            have hst := Lib.hid (rp_last (his ▸ HP.out) (his ▸ hne))
            clear hne hf HR HE
            go_wp2
            go_roundw
            case rel => exact ⟨i + 1, k, _, sps, by omega, by go_num, rfl, rfl, fun h => by omega, fun _ => hst.out, hown, hbl⟩
            case measure => simp [intOf]; omega
    · have hie : i = s.size + 1 := by omega
      obtain ⟨hq, hkl⟩ := HE.out hie
      obtain ⟨ho, hsp⟩ := rp_end hq hkl
      have hsl := hq.2.1
      have HO := Lib.hid ho
      clear ho hq hf hie HR HE
      go_wp2
      go_ret2
      refine ⟨_, ret_out HO.out, ?_, hbl0⟩
      have := Sl.ofOwns hown0
      rw [← hsl] at this
      rw [← hsp]
      exact this
end Go.Proofs.Ytofbhdpcpoclaaa
