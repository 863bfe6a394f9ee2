/- The walk of the reference's sign. -/
import Derived.Test.YtofbhdpcpoclaaaDoorRefLex2
namespace Go.Proofs.YtofbhdpcpoclaaaDoor
open Go.RowKit

def signLen (T : List UInt8) : Nat := match signF T with
  | some x => x.length
  | none => 0

theorem two_len : ∀ x ∈ twoL, x.length = 2 := by decide

theorem signLen_two {T x : List UInt8} (h : x ∈ twoL) (hx : x <+: T) : signLen T = 2 := by
  rw [signLen, signF, signL, List.find?_append]
  cases hf : twoL.find? (fun x => x.isPrefixOf T) with
  | none =>
    rw [List.find?_eq_none] at hf
    exact absurd (List.isPrefixOf_iff_prefix.2 hx) (hf x h)
  | some y =>
    rw [Option.some_or]
    exact two_len y (List.mem_of_find?_eq_some hf)

theorem signLen_one {c : UInt8} {r : List UInt8} (h : ∀ x ∈ twoL, ¬ x <+: c :: r) : signLen (c :: r) = if c ∈ oneL then 1 else 0 := by
  rw [signLen, signF, signL, List.find?_append]
  have hf : twoL.find? (fun x => x.isPrefixOf (c :: r)) = none := by
    rw [List.find?_eq_none]
    intro x hx q
    exact h x hx (List.isPrefixOf_iff_prefix.1 q)
  rw [hf, Option.none_or]
  by_cases hc : c ∈ oneL
  · rw [if_pos hc]
    cases hq : (oneL.map fun c => [c]).find? (fun x => x.isPrefixOf (c :: r)) with
    | none =>
      rw [List.find?_eq_none] at hq
      exact absurd (List.isPrefixOf_iff_prefix.2 ⟨r, rfl⟩) (hq [c] (List.mem_map.2 ⟨c, hc, rfl⟩))
    | some y =>
      obtain ⟨d, _, rfl⟩ := List.mem_map.1 (List.mem_of_find?_eq_some hq)
      rfl
  · rw [if_neg hc]
    have hq : (oneL.map fun c => [c]).find? (fun x => x.isPrefixOf (c :: r)) = none := by
      rw [List.find?_eq_none]
      intro x hx q
      obtain ⟨d, hd, rfl⟩ := List.mem_map.1 hx
      have := List.isPrefixOf_iff_prefix.1 q
      obtain ⟨t, e⟩ := this
      injection e with e1 e2
      exact hc (e1 ▸ hd)
    rw [hq]

theorem two_short {x : List UInt8} (hx : x ∈ twoL) (c : UInt8) : ¬ x <+: [c] := fun q => by
  have := q.length_le
  rw [two_len x hx] at this
  simp at this

theorem two_pair {x : List UInt8} (hx : x ∈ twoL) (c d : UInt8) (r : List UInt8) : x <+: c :: d :: r ↔ x = [c, d] := by
  constructor
  · intro q
    have h1 := List.prefix_iff_eq_take.1 q
    rw [two_len x hx] at h1
    exact h1
  · rintro rfl
    exact ⟨r, rfl⟩

def oneB : ByteArray := ⟨#[40, 41, 123, 125, 44, 58, 59, 46, 43, 45, 42, 47, 37, 61, 60, 62]⟩

set_option maxHeartbeats 1000000 in
set_option maxRecDepth 100000 in
/-- The second loop's part: no sign of two bytes stands there. -/
theorem refSign_any (s : ByteArray) (p : Nat) (w : World) (hs : s.size ≤ 1099511627776) (hp : p < s.size) :
    Calls Tryd.prog 29 #[.string s, .int .i64 p] w fun e w' => e = .returned (.int .i64 (signLen (s.data.toList.drop p))) ∧ Below w.heap.size w w' := by
  generalize hR : signLen (s.data.toList.drop p) = R
  rw [drop_byte hp] at hR
  have HR := Lib.hid hR
  clear hR
  go_enter Tryd.func29, Tryd.ntmps29
  go_wp2
  generalize hw : w.alloc _ = wx
  have hh : wx.heap[w.heap.size]? = some (.cells (rowOf twoL) 75 (0, 0)) := by rw [← hw]; exact heap_alloc_new w _
  have hb : Below w.heap.size w wx := by rw [← hw]; exact (Below.refl _ _).alloc (Nat.le_refl _) _
  clear hw
  go_loopw [6] (fun i wr => ∃ k : Nat, k ≤ 6 ∧ i = .int .i64 k ∧ (∀ j, (hj : j < twoL.length) → j < k → ¬ twoL[j] <+: (s[p]'hp) :: s.data.toList.drop (p + 1)) ∧ wr.heap[w.heap.size]? = some (.cells (rowOf twoL) 75 (0, 0)) ∧ Below w.heap.size w wr) (fun i _ => 6 - (intOf i).toNat)
  case atStart => exact ⟨0, by omega, rfl, fun j _ h => absurd h (by omega), hh, hb⟩
  case round =>
    clear hh hb
    obtain ⟨k, hk, rfl, hj, hh, hb⟩ := hrel
    by_cases hlt : k < 6
    · have hkl : k < twoL.length := hlt
      have hI : (k : Int) < 6 := by omega
      have hc : wr.cell? ⟨w.heap.size, k, none⟩ = some (.string ⟨twoL[k].toArray⟩) := by rw [Lib.cell_of_heap hh]; exact rowOf_at _ _ hkl
      have w1 : IntKind.i64.wrap ((p : Int) + 1) = (p : Int) + 1 := IntWalk.i64_in _ (by omega)
      have w2 : IntKind.i64.wrap ((p : Int) + 2) = (p : Int) + 2 := IntWalk.i64_in _ (by omega)
      have HH := Lib.hid hh
      by_cases hlt2 : p + 1 < s.size
      · have hd := drop_byte hlt2
        have hI2 : (p : Int) + 1 < ↑s.size := by omega
        have hI3 : (p : Int) + 2 ≤ ↑s.size := by omega
        have hI4 : ((p : Int) + 2).toNat = p + 2 := by omega
        have hy : (s.extract p (p + 2)).data.toList = [s[p]'hp, s[p + 1]'hlt2] := by
          rw [extract_list, List.drop_take, drop_byte hp, hd]
          simp
        have hs2 : ((s.extract p (p + 2)).toList == (ByteArray.mk twoL[k].toArray).toList) = decide (twoL[k] = [s[p]'hp, s[p + 1]'hlt2]) := by
          rw [Lib.toList_data, Lib.toList_data, hy]
          by_cases q : twoL[k] = [s[p]'hp, s[p + 1]'hlt2]
          · rw [decide_eq_true q, beq_iff_eq]; exact q.symm
          · rw [decide_eq_false q, ← Bool.not_eq_true, beq_iff_eq]; exact fun e => q e.symm
        by_cases he : twoL[k] = [s[p]'hp, s[p + 1]'hlt2]
        · rw [decide_eq_true he] at hs2
          have hR2 : R = 2 := by
            rw [← HR.out]
            refine signLen_two (List.getElem_mem hkl) ?_
            rw [hd]
            exact (two_pair (List.getElem_mem hkl) _ _ _).2 he
          generalize ByteArray.mk twoL[k].toArray = y at hc hs2
          have HR2 := Lib.hid hR2
          clear hR2 he hh hj hd hy
          go_wp2
          go_quiet (fail)
          go_wp2
          go_ret
          exact ⟨ret_int (by rw [HR2.out]; rfl), below_drewN hb _⟩
        · rw [decide_eq_false he] at hs2
          have HJ : Hid (∀ j, (hj : j < twoL.length) → j < k + 1 → ¬ twoL[j] <+: (s[p]'hp) :: s.data.toList.drop (p + 1)) := Lib.hid (fun j hjl hjk => by
            by_cases hkj : j = k
            · subst hkj
              rw [hd, two_pair (List.getElem_mem hjl)]
              exact he
            · exact hj j hjl (by omega))
          generalize ByteArray.mk twoL[k].toArray = y at hc hs2
          clear he hh hj hd hy
          go_wp2
          go_quiet (fail)
          go_wp2
          go_roundw
          case rel => exact ⟨k + 1, by omega, by go_num, HJ.out, HH.out, below_drewN hb _⟩
          case measure => simp [intOf]; omega
      · have hI2 : decide ((p : Int) + 1 < ↑s.size) = false := decide_eq_false (by omega)
        have HJ : Hid (∀ j, (hj : j < twoL.length) → j < k + 1 → ¬ twoL[j] <+: (s[p]'hp) :: s.data.toList.drop (p + 1)) := Lib.hid (fun j hjl hjk => by
          have e : s.data.toList.drop (p + 1) = [] := by rw [List.drop_eq_nil_iff, ← Lib.size_eq]; omega
          rw [e]
          exact two_short (List.getElem_mem hjl) _)
        generalize ByteArray.mk twoL[k].toArray = y at hc
        clear hh hj
        go_wp2
        go_quiet (fail)
        go_wp2
        go_roundw
        case rel => exact ⟨k + 1, by omega, by go_num, HJ.out, HH.out, below_drewN hb _⟩
        case measure => simp [intOf]; omega
    · have hI : decide ((k : Int) < 6) = false := decide_eq_false (by omega)
      have hno : ∀ x ∈ twoL, ¬ x <+: (s[p]'hp) :: s.data.toList.drop (p + 1) := by
        intro x hx
        obtain ⟨j, hjl, e⟩ := List.mem_iff_getElem.1 hx
        exact e ▸ hj j hjl (by have : twoL.length = 6 := rfl; omega)
      have hR1 := HR.out
      rw [signLen_one hno] at hR1
      have HR1 := Lib.hid hR1
      clear hR1 hno hj hh
      go_wp2
      obtain ⟨o, ho⟩ : ∃ o : ByteArray, o = ⟨#[40, 41, 123, 125, 44, 58, 59, 46, 43, 45, 42, 47, 37, 61, 60, 62]⟩ := ⟨_, rfl⟩
      rw [← ho]
      have hos : o.size ≤ 16 := by rw [ho]; exact Nat.le_refl 16
      have hol : o.data.toList = oneL := by rw [ho]; rfl
      clear ho
      go_loopw [8] (fun i wq => ∃ j : Nat, j ≤ o.size ∧ i = .int .i64 j ∧ (∀ m, (hm : m < o.size) → m < j → o[m]'hm ≠ s[p]'hp) ∧ Below w.heap.size w wq) (fun i _ => o.size - (intOf i).toNat)
      case atStart => exact ⟨0, by omega, rfl, fun m _ h => absurd h (by omega), hb⟩
      case round =>
        clear hb hI
        obtain ⟨j, hj, rfl, hm, hb⟩ := hrel
        by_cases hlt : j < o.size
        · have hJ : (j : Int) < ↑o.size := by omega
          by_cases he : o[j]'hlt = s[p]'hp
          · have hc : (s[p]'hp) ∈ oneL := by rw [← hol, ← he]; exact List.getElem_mem (l := o.data.toList) _
            have t1 : (((s[p]'hp).toNat : Int) == ((o[j]'hlt).toNat : Int)) = true := by rw [he, beq_iff_eq]
            have HC := Lib.hid hc
            clear hc he hm hol
            go_wp2
            go_quiet (fail)
            go_wp2
            go_ret
            exact ⟨ret_int (by rw [← HR1.out, if_pos HC.out]; rfl), below_drewN hb _⟩
          · have t1 : (((s[p]'hp).toNat : Int) == ((o[j]'hlt).toNat : Int)) = false := by
              rw [← Bool.not_eq_true, beq_iff_eq]
              intro q
              exact he (UInt8.toNat_inj.1 (by omega))
            have HM : Hid (∀ m, (hm : m < o.size) → m < j + 1 → o[m]'hm ≠ s[p]'hp) := Lib.hid (fun m hmo hmj => by
              by_cases hmk : m = j
              · subst hmk; exact he
              · exact hm m hmo (by omega))
            clear he hm hol
            go_wp2
            go_quiet (fail)
            go_wp2
            go_roundw
            case rel => exact ⟨j + 1, by omega, by go_num, HM.out, below_drewN hb _⟩
            case measure => simp [intOf]; omega
        · have hJ : decide ((j : Int) < ↑o.size) = false := decide_eq_false (by omega)
          have hc : ¬ (s[p]'hp) ∈ oneL := by
            rw [← hol]
            intro q
            obtain ⟨m, hml, e⟩ := List.mem_iff_getElem.1 q
            have hmo : m < o.size := by rw [Lib.size_eq]; exact hml
            exact hm m hmo (by omega) e
          have HC := Lib.hid hc
          clear hc hm hol
          go_wp2
          go_ret
          exact ⟨ret_int (by rw [← HR1.out, if_neg HC.out]; rfl), hb⟩
end Go.Proofs.YtofbhdpcpoclaaaDoor
