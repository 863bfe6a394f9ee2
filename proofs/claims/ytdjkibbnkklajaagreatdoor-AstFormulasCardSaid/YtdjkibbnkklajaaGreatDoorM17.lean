/- The walks of the code that the claim reaches, and the plain laws: IntW, LeavesW1. No condition of ours. -/
import Derived.Test.YtdjkibbnkklajaaGreatDoorM15
import Derived.Test.YtdjkibbnkklajaaGreatDoorM16
import Derived.Lib.SlicesMore
import Derived.RangeFuncBox
import Derived.RangeFuncNested
import Derived.RangeFuncBound
import Derived.RangeFuncCalls
import Derived.RangeFuncLeaves
import Derived.RangeFuncWrites
import Derived.Shelf.Abstract
import Derived.Shelf.RegionOpen
import Derived.WalkKit
import Derived.OwnWalkIn
import Derived.TacticsInMore
import Derived.LoopNIn
import Derived.LoopIn
import Derived.Sort.LoopGhostIn
import Derived.Test.YtdjkibbnkklajaaGreatDoorM04
namespace Go.Proofs.YtdjkibbnkklajaaGreatDoor
open Go.RowKit Go

theorem digit_get : ∀ k : Nat, k < 10 → ∀ h : k < (ByteArray.mk #[48, 49, 50, 51, 52, 53, 54, 55, 56, 57]).size, (ByteArray.mk #[48, 49, 50, 51, 52, 53, 54, 55, 56, 57])[k]'h = UInt8.ofNat (48 + k)
  | 0, _ => fun _ => rfl
  | 1, _ => fun _ => rfl
  | 2, _ => fun _ => rfl
  | 3, _ => fun _ => rfl
  | 4, _ => fun _ => rfl
  | 5, _ => fun _ => rfl
  | 6, _ => fun _ => rfl
  | 7, _ => fun _ => rfl
  | 8, _ => fun _ => rfl
  | 9, _ => fun _ => rfl
  | n + 10, h => absurd h (by omega)

theorem byteRow_text (W : World) {base g cap n : Nat} {l : List UInt8} (hn : l.length = n) (h : W.ownsRow base 5 1 (.slice (some ⟨g, 0, none⟩) n cap) n (Lib.byteCells l)) :
    (convert 73 9 (.slice (some ⟨g, 0, none⟩) n cap)).run Tryz.prog W = .ok (.string ⟨l.toArray⟩) W := by
  subst hn
  refine run_convert_bytes_back _ 73 9 5 ⟨g, 0, none⟩ cap l Tryz.underlying73 Tryz.underlying5 Tryz.underlying9 (fun j hj => ?_)
  obtain ⟨ao, c, hv, _, hl, hc⟩ := Sl.ofOwns h
  obtain ⟨b, o, ha, _, hcell⟩ := hc (by omega)
  simp only [Value.slice.injEq] at hv
  rw [ha] at hv
  simp only [Option.some.injEq, Addr.mk.injEq] at hv
  obtain ⟨⟨rfl, rfl, -⟩, -, -⟩ := hv
  rw [show Addr.add ⟨g, 0, none⟩ j = ⟨g, 0 + j, none⟩ by unfold Addr.add; split <;> simp_all]
  have := hcell j (by rw [hl]; omega)
  rw [this]
  simp [Lib.byteCells]

theorem Wd.append {wr w3 : World} {o : Obj} {v v' m : Value} {us : List Nat} {g : Nat} (h : Wd (fun b => some b ≠ v.ownBlock) wr m us) (hg : (wr.alloc o).grownBy w3 v.ownBlock) (hat : v.ownBlock = some g ∨ g = wr.heap.size + 1) (hv : v'.ownBlock = some g) :
    Wd (fun b => some b ≠ v'.ownBlock) w3 m us := by
  have h1 : Wd (fun b => some b ≠ v.ownBlock ∧ some b ≠ v'.ownBlock) wr m us := SlP.imp h fun b hb hlt => ⟨hb, fun q => by
    rw [hv] at q
    rcases hat with e | e
    · exact hb (by rw [e, q])
    · injection q; omega⟩
  have h2 : Wd (fun b => some b ≠ v.ownBlock ∧ some b ≠ v'.ownBlock) (wr.alloc o) m us := SlP.frame h1 ⟨by simp, fun b _ hb => Lib.alloc_old _ _ _ hb⟩
  exact SlP.imp (SlP.frame h2 (Alk.grown hg fun b hb => hb.1)) fun b hb _ => hb.2

set_option maxHeartbeats 1000000 in
set_option maxRecDepth 100000 in
theorem zstr_zero (b : Bool) (am : Option Addr) (cm : Nat) (w : World) :
    Calls Tryz.prog 43 #[.agg #[.bool b, .slice am 0 cm]] w (StrPost [48] w) := by
  go_enter Tryz.func43, Tryz.ntmps43
  go_wp2
  go_ret
  exact ⟨rfl, (Below.refl _ _).alloc (Nat.le_refl _) _⟩

theorem bytesRow_eq (S : ByteArray) (c : Nat) : bytesRow S c = (Lib.byteCells S.data.toList ++ List.replicate (c - S.size) (Value.int .u8 0)).toArray := by
  apply Array.ext'
  simp [bytesRow, Lib.byteCells]

theorem cells_text (W : World) {g cap n : Nat} {l : List UInt8} {rest : List Value} {T : TypeId} {fr : Nat × Nat} (hn : l.length = n) (h : W.heap[g]? = some (.cells (Lib.byteCells l ++ rest).toArray T fr)) :
    (convert 73 9 (.slice (some ⟨g, 0, none⟩) n cap)).run Tryz.prog W = .ok (.string ⟨l.toArray⟩) W := by
  subst hn
  refine run_convert_bytes_back _ 73 9 5 ⟨g, 0, none⟩ cap l Tryz.underlying73 Tryz.underlying5 Tryz.underlying9 (fun j hj => ?_)
  rw [show Addr.add ⟨g, 0, none⟩ j = ⟨g, j, none⟩ by unfold Addr.add; split <;> simp_all, Lib.cell_of_heap h, List.getElem?_toArray, List.getElem?_append_left (by simpa [Lib.byteCells] using hj)]
  simp [Lib.byteCells, hj]

/-- What the inner rounds keep. -/
def ZIn (bx : Array Value) (w : World) (n : Nat) (l : List UInt8) (v m : Value) (us : List Nat) (wr : World) : Prop :=
  Wd (fun b => some b ≠ v.ownBlock) wr m us ∧ wr.ownsRow w.heap.size 5 1 v n (Lib.byteCells l) ∧ Below w.heap.size w wr ∧ wr.heap[w.heap.size]? = some (.cells bx 34 (0, 0))
def ZDig (bx : Array Value) (w : World) (n : Nat) (l : List UInt8) (r : Nat) (m : Value) (us : List Nat) (v q c : Value) (wr : World) : Prop :=
  ∃ i : Nat, i ≤ 9 ∧ c = .int .i64 i ∧ q = .int .u64 ((r / 10 ^ i : Nat) : Int) ∧ ZIn bx w (n + i) (l ++ lowD i r) v m us wr
/-- What the rounds keep. -/
def ZRound (bx : Array Value) (w : World) (N j : Nat) (v m : Value) (us : List Nat) (wr : World) : Prop :=
  trimW us = us ∧ (∀ x ∈ us, x < 4294967296) ∧ magV us = N / 10 ^ (9 * j) ∧ Wd (fun b => some b ≠ v.ownBlock) wr m us ∧ wr.ownsRow w.heap.size 5 1 v (9 * j) (Lib.byteCells (lowD (9 * j) N)) ∧ Below w.heap.size w wr ∧ wr.heap[w.heap.size]? = some (.cells bx 34 (0, 0))
def ZStr (bx : Array Value) (w : World) (k N : Nat) (v m : Value) (wr : World) : Prop := ∃ j us am cm, j + k = 7 ∧ m = .slice am us.length cm ∧ ZRound bx w N j v m us wr

set_option maxHeartbeats 2000000 in
set_option maxRecDepth 100000 in
theorem zstr_pos (P : Nat → Prop) (am : Option Addr) (cm : Nat) (n : Int) (ws : List Nat) (w : World) (h : Wd P w (.slice am ws.length cm) ws) (ht : trimW ws = ws) (hw : ∀ x ∈ ws, x < 4294967296) (hv : magV ws = n.natAbs) (hn : n.natAbs < 10 ^ 60) (h0 : 0 < ws.length) :
    Calls Tryz.prog 43 #[.agg #[.bool (decide (n < 0)), .slice am ws.length cm]] w (StrPost (intF n) w) := by
  obtain ⟨i0, hi, hz0, hz1, hz2⟩ := info_parts Tryz.infoByte
  have hN0 : 0 < n.natAbs := by rw [← hv]; exact trimW_pos ht (by intro q; rw [q] at h0; simp at h0)
  have h7 : ws.length ≤ 7 := magV_few ws 7 ht (by rw [hv]; exact Nat.lt_trans hn (by decide))
  have HT := Lib.hid (show n ≠ 0 by omega)
  have HS : Hid (ZStr #[.bool (decide (n < 0)), .slice am ws.length cm] w 7 n.natAbs (.slice none 0 0) (.slice am ws.length cm) (w.alloc (.cells #[.bool (decide (n < 0)), .slice am ws.length cm] 34))) := Lib.hid ⟨0, ws, am, cm, rfl, rfl, ht, hw, by rw [hv]; simp, SlP.imp (SlP.frame h ⟨by simp, fun b _ hb => Lib.alloc_old _ _ _ hb⟩) (fun b _ _ q => by cases q), World.ownsRow_nil _ _ _ _, (Below.refl _ _).alloc (Nat.le_refl _) _, heap_alloc_new w _⟩
  have HN := Lib.hid hn
  have hwl : (0 : Int) < (ws.length : Int) := by omega
  have hwn : ((ws.length : Int) == 0) = false := beq_eq_false_iff_ne.2 (by omega)
  clear h ht hw hv hn hN0
  generalize hng : decide (n < 0) = ng at *
  have HNG := Lib.hid hng
  clear hng
  go_enter Tryz.func43, Tryz.ntmps43
  go_upto_region 5 with fail
  go_loopg [3, 4] 7 (fun k v m wr => ZStr #[.bool ng, .slice am ws.length cm] w k n.natAbs v m wr)
  case atStart => exact HS.out
  case round =>
    obtain ⟨j, us, au, cu, hjk, rfl, ht, hw, hm, hwd, hrow, hbl, hbx⟩ := hrel
    obtain ⟨v, rfl⟩ : ∃ v : Value, v = u3 := ⟨_, rfl⟩
    obtain ⟨w1, rfl⟩ : ∃ w1 : World, w1 = wr := ⟨_, rfl⟩
    have hz := hbl.size
    by_cases hu : us.length = 0
    · have hu' := List.length_eq_zero_iff.1 hu
      subst hu'
      have hlt : n.natAbs < 10 ^ (9 * j) := by
        rw [magV] at hm
        exact (Nat.div_eq_zero_iff_lt (Nat.pow_pos (by omega))).1 hm.symm
      have HTX := Lib.hid (int_text n (9 * j) HT.out hlt)
      have htl := trim_len (lowD (9 * j) n.natAbs)
      rw [lowD_len] at htl
      have hll := lowD_len (9 * j) n.natAbs
      have h9j : 0 < 9 * j := by
        rcases Nat.eq_zero_or_pos j with q | q
        · subst q; simp at hlt; have := HT.out; omega
        · omega
      obtain ⟨g, cap, rfl⟩ := row_form hrow h9j
      have hcv := byteRow_text w1 hll hrow
      have bx0 : w1.cell? ⟨w.heap.size, 0, none⟩ = some (.bool ng) := by rw [Lib.cell_of_heap hbx]; rfl
      have HTR := Lib.hid (Tryz.strings_TrimRight_one ⟨(lowD (9 * j) n.natAbs).toArray⟩ 48 (by decide) w1 (by rw [← size_list]; simp [hll]; omega))
      simp only [trim_right] at HTR
      generalize lowD (9 * j) n.natAbs = l at htl hll hcv HTX HTR hrow
      obtain ⟨TZ, hTZ, eTZ⟩ := bytes_of (trimZ l)
      rw [eTZ] at HTR
      have HTZ := Lib.hid hTZ
      have htz : TZ.size ≤ 9 * j := by rw [← size_list, hTZ]; exact htl
      have hcb := fun (W : World) (S : ByteArray) => run_bytes_of_string (P := Tryz.prog) W 9 73 5 S Tryz.underlying9 Tryz.underlying73 Tryz.underlying5
      have HBL := Lib.hid hbl
      clear hTZ eTZ htl hll hwd hrow ht hw hm hlt hbl
      go_upto_if 37 with (go_at_call 70; refine HTR.out.mono ?_; rintro e w2 ⟨rfl, hww⟩; obtain rfl : w1 = w2 := hww.symm)
      go_cut [6] (fun s wc => ∃ S : ByteArray, s = .string S ∧ S.data.toList.reverse = intF n ∧ S.size ≤ 70 ∧ wc = w1)
      case first =>
        cases ng with
        | true =>
          have hn0 := of_decide_eq_true HNG.out
          have HR : Hid ((trimZ l ++ [45]).reverse = intF n) := Lib.hid (by have := HTX.out; rw [if_pos hn0] at this; exact this)
          clear hn0
          go_wp2
          go_meet
          exact ⟨_, rfl, by rw [append_list, HTZ.out, ← HR.out], by simp [ByteArray.size_append]; show TZ.size + 1 ≤ 70; omega, rfl⟩
        | false =>
          have hn0 := of_decide_eq_false HNG.out
          have HR : Hid ((trimZ l).reverse = intF n) := Lib.hid (by have := HTX.out; rw [if_neg hn0, List.append_nil] at this; exact this)
          clear hn0
          go_wp2
          go_meet
          exact ⟨TZ, rfl, by rw [HTZ.out, HR.out], by omega, rfl⟩
      case rest =>
        obtain ⟨S, rfl, hS, hSz, rfl⟩ := hcut
        obtain ⟨wo, rfl⟩ : ∃ wo : World, wo = wc := ⟨_, rfl⟩
        have HSS := Lib.hid hS
        have hcS := hcb wo S
        rw [bytesRow_eq] at hcS
        have hnew := heap_alloc_new wo.drew (.cells (Lib.byteCells S.data.toList ++ List.replicate (grownCap wo S.size 0 5 - S.size) (Value.int .u8 0)).toArray 5 ((Lib.byteCells S.data.toList ++ List.replicate (grownCap wo S.size 0 5 - S.size) (Value.int .u8 0)).toArray.size, (Lib.byteCells S.data.toList ++ List.replicate (grownCap wo S.size 0 5 - S.size) (Value.int .u8 0)).toArray.size + 1))
        have hbn := below_new wo.drew (.cells (Lib.byteCells S.data.toList ++ List.replicate (grownCap wo S.size 0 5 - S.size) (Value.int .u8 0)).toArray 5 ((Lib.byteCells S.data.toList ++ List.replicate (grownCap wo S.size 0 5 - S.size) (Value.int .u8 0)).toArray.size, (Lib.byteCells S.data.toList ++ List.replicate (grownCap wo S.size 0 5 - S.size) (Value.int .u8 0)).toArray.size + 1))
        have hfz : S.data.toList.length ≤ ((Lib.byteCells S.data.toList ++ List.replicate (grownCap wo S.size 0 5 - S.size) (Value.int .u8 0)).toArray.size, (Lib.byteCells S.data.toList ++ List.replicate (grownCap wo S.size 0 5 - S.size) (Value.int .u8 0)).toArray.size + 1).1 := by simp [Lib.byteCells]
        generalize List.replicate (grownCap wo S.size 0 5 - S.size) (Value.int .u8 0) = rest at *
        generalize ((Lib.byteCells S.data.toList ++ rest).toArray.size, (Lib.byteCells S.data.toList ++ rest).toArray.size + 1) = fr at *
        generalize grownCap wo S.size 0 5 = cp at *
        generalize wo.drew.alloc _ = w5 at hcS hnew hbn
        have hrv := byteRev_any wo.heap.size cp S.data.toList rest fr w5 hnew hfz (by rw [size_list]; omega)
        rw [size_list] at hrv
        have HRV := Lib.hid hrv
        clear hcb hrv hnew hfz hS hcv bx0
        go_wp2_with (go_at_call 71; refine HRV.out.mono ?_; rintro e w6 ⟨rfl, hh6, hs6, ho6, hb6⟩; have hct := cells_text (cap := cp) (n := S.size) w6 (by simp [size_list]) hh6)
        go_ret
        exact ⟨by rw [HSS.out]; rfl, (HBL.out.drew.trans (hbn.mono hz)).trans (hb6.mono hz)⟩
    · have hul : (0 : Int) < (us.length : Int) := by omega
      have hmp := trimW_pos ht (by intro q; rw [q] at hu; exact hu rfl)
      have hj6 : j ≤ 6 := by
        rcases Nat.lt_or_ge 6 j with q | q
        · obtain rfl : j = 7 := by omega
          rw [Nat.div_eq_of_lt (Nat.lt_trans HN.out (by decide))] at hm
          omega
        · exact q
      have hfew : us.length ≤ 7 := magV_few us 7 ht (by rw [hm]; exact Nat.lt_of_le_of_lt (Nat.div_le_self _ _) (Nat.lt_trans HN.out (by decide)))
      have HSH := Lib.hid (zshort_any _ au cu us 1000000000 w1 hwd hw (by omega) (by omega) (by omega))
      obtain ⟨hd1, hd2⟩ := short_div us n.natAbs (9 * j) hm
      have hr9 := shortF_rest 1000000000 (by omega) us
      have htr := trimW_idem (shortF 1000000000 us).1
      have hlt2 : ∀ x ∈ trimW (shortF 1000000000 us).1, x < 4294967296 := fun x hx => shortF_lt 1000000000 (by omega) us hw x (trimW_mem _ _ hx)
      have hlow := lowD_nine (9 * j) n.natAbs
      rw [← hd2] at hlow
      have HLW := Lib.hid hlow
      have HM := Lib.hid (show trimW (trimW (shortF 1000000000 us).1) = trimW (shortF 1000000000 us).1 ∧ (∀ x ∈ trimW (shortF 1000000000 us).1, x < 4294967296) ∧ magV (trimW (shortF 1000000000 us).1) = n.natAbs / 10 ^ (9 * (j + 1)) from ⟨htr, hlt2, by rw [hd1, Nat.mul_add]⟩)
      unfold ShortPost at HSH
      generalize (shortF 1000000000 us).2 = r at HSH hr9 HLW
      generalize trimW (shortF 1000000000 us).1 = us2 at HSH HM
      generalize lowD (9 * j) n.natAbs = l at hrow HLW
      clear hwd hw ht hm hmp hd1 hd2 htr hlt2 hlow
      go_upto_region 8 with (go_at_call 69; refine HSH.out.mono ?_; rintro e w2 ⟨c2, rfl, hwd2, hb2⟩)
      have hzb2 := hb2.size
      have hown : ∀ q, v.ownBlock = some q → w.heap.size ≤ q ∧ q < w1.heap.size := fun q hq => hrow.lt q hq
      have HI : Hid (ZDig #[.bool ng, .slice am ws.length cm] w (9 * j) l r (.slice (some ⟨w1.heap.size, 0, none⟩) us2.length c2) us2 v (.int .u64 (r : Int)) (.int .i64 (0 : Nat)) w2) := Lib.hid ⟨0, by omega, rfl, by simp, SlP.imp hwd2 (fun b hb _ q => by have := (hown b q.symm).2; omega), by simpa [lowD] using own_below hrow hb2, hbl.trans (hb2.mono hz), (hb2.block _ (Array.getElem?_eq_some_iff.1 hbx).1).trans hbx⟩
      clear hown hrow hwd2 hb2 hbl hbx
      go_wp2
      go_loopw [3, 5, 22] (fun v q c W => ZDig #[.bool ng, .slice am ws.length cm] w (9 * j) l r (.slice (some ⟨w1.heap.size, 0, none⟩) us2.length c2) us2 v q c W) (fun _ _ c _ => 9 - (intOf c).toNat)
      case atStart => exact HI.out
      case round =>
        obtain ⟨i, hi9, rfl, rfl, hwd, hrow, hbl, hbx⟩ := hrel
        have hzW := hbl.size
        by_cases hlt : i < 9
        · have hq9 : r / 10 ^ i < 1000000000 := Nat.lt_of_le_of_lt (Nat.div_le_self _ _) hr9
          have hsn := lowD_snoc i r
          have hdv : r / 10 ^ (i + 1) = r / 10 ^ i / 10 := by rw [Nat.pow_succ, Nat.div_div_eq_div_mul]
          have HDV := Lib.hid hdv
          have HSN := Lib.hid hsn
          generalize r / 10 ^ i = q at hq9 HDV HSN ⊢
          have hix := digit_get (q % 10) (by omega)
          generalize UInt8.ofNat (48 + q % 10) = c at hix HSN
          have hiI : (i : Int) < 9 := by omega
          clear hsn hdv
          go_wp2_with (at_builtin; refine wpList_append_lies _ rfl _ _ 73 rfl w.heap.size 5 i0 (.int .u8 0) 1 1 Tryz.underlying73 hi hz0 hz1 hz2 rfl (by decide) _ (9 * j + i) _ rfl (hrow.alloc _) ⟨wr.heap.size, 0, none⟩ 1 1 [.int .u8 (c.toNat : Int)] rfl rfl ?c1 ?c2 ?c3 ?c4 ?c5 ?c6 _ rfl ?_)
          case c1 =>
            intro j' u hj'
            exact World.news_of_block (cs := #[.int .u8 (c.toNat : Int)]) (t := 5) (fr := (0, 0)) (heap_alloc_new wr _) j' u (by simpa using hj')
          case c2 => simp [Value.oneCell']
          case c3 => omega
          case c4 => unfold maxLen; omega
          case c5 => omega
          case c6 => simp; omega
          intro g cap w3 hown3 hgrow3 hat3 hlt3
          have hwd3 := Wd.append (v' := .slice (some ⟨g, 0, none⟩) (9 * j + i + 1) cap) hwd hgrow3 (by simpa using hat3) rfl
          have hb3 : Below w.heap.size w w3 := (hbl.alloc hzW _).grown hgrow3 (by simp; omega) (fun q hq => by have := (hrow.lt q hq).1; omega)
          have HIN : Hid (ZIn #[.bool ng, .slice am ws.length cm] w (9 * j + (i + 1)) (l ++ lowD (i + 1) r) (.slice (some ⟨g, 0, none⟩) (9 * j + i + 1) cap) (.slice (some ⟨w1.heap.size, 0, none⟩) us2.length c2) us2 w3) := Lib.hid ⟨hwd3, by rw [HSN.out, ← List.append_assoc, Lib.byteCells_append]; exact hown3, hb3, own_block (hrow.alloc _) hgrow3 ((Lib.alloc_old _ _ _ (Array.getElem?_eq_some_iff.1 hbx).1).trans hbx) (by decide)⟩
          clear hwd3 hb3 hown3 hgrow3 hat3 hlt3 hwd hrow hbl hix hbx
          go_wp2
          exact ⟨⟨i + 1, by omega, by go_num, by rw [HDV.out]; exact val_int (by omega), HIN.out⟩, by simp [intOf]; omega⟩
        · obtain rfl : i = 9 := by omega
          have HO : Hid (ZRound #[.bool ng, .slice am ws.length cm] w n.natAbs (j + 1) u3 (.slice (some ⟨w1.heap.size, 0, none⟩) us2.length c2) us2 wr) := Lib.hid ⟨HM.out.1, HM.out.2.1, HM.out.2.2, hwd, by rw [Nat.mul_add, HLW.out]; exact hrow, hbl, hbx⟩
          clear hwd hrow hbl hbx
          go_wp2
          go_roundg (6 - j)
          case measure => omega
          case rel => exact ⟨j + 1, us2, _, c2, by omega, rfl, HO.out⟩

theorem zstr_any (P : Nat → Prop) (am : Option Addr) (wn cm : Nat) (n : Int) (w : World) (h : NumAt P w n (.slice am wn cm)) (hn : n.natAbs < 10 ^ 60) :
    Calls Tryz.prog 43 #[.agg #[.bool (decide (n < 0)), .slice am wn cm]] w (StrPost (intF n) w) := by
  obtain ⟨ws, h1, h2, h3, h4⟩ := h
  obtain ⟨ao, cap, hv⟩ := h1.form
  simp only [Value.slice.injEq] at hv
  obtain ⟨rfl, rfl, rfl⟩ := hv
  by_cases h0 : ws.length = 0
  · have hw := List.length_eq_zero_iff.1 h0
    subst hw
    have hz : n = 0 := by rw [magV] at h4; omega
    subst hz
    have e : intF 0 = [48] := by
      have := intF_nat 0
      rw [show ((0 : Nat) : Int) = 0 from rfl] at this
      rw [this, decF, dif_pos (by omega)]
      rfl
    rw [e]
    exact zstr_zero _ _ _ _
  · exact zstr_pos P _ _ n ws w h1 h2 h3 h4 hn (by omega)
end Go.Proofs.YtdjkibbnkklajaaGreatDoor

namespace Go.Proofs.YtdjkibbnkklajaaGreatDoor
open Go.RowKit Go.Shelf
attribute [local go_sem] Oper.semAt_some

/-- What has come behind k rounds from a row's end on. -/
def backF (ks : List Int) (k : Nat) : List (Int × Int) := (List.range k).map fun (j : Nat) => ((ks.length : Int) - 1 - (j : Int), ks[ks.length - 1 - j]?.getD 0)
theorem backF_succ (ks : List Int) (k : Nat) : backF ks (k + 1) = backF ks k ++ [((ks.length : Int) - 1 - (k : Int), ks[ks.length - 1 - k]?.getD 0)] := by simp [backF, List.range_succ]
theorem backF_len (ks : List Int) (k : Nat) : (backF ks k).length = k := by simp [backF]
theorem backF_snd (ks : List Int) (k : Nat) (hk : k ≤ ks.length) : (backF ks k).map Prod.snd = ks.reverse.take k := by
  apply List.ext_getElem
  · simp [backF, hk]
  · intro i h1 h2
    simp only [List.length_map, backF_len] at h1
    simp [backF, show ks.length - 1 - i < ks.length by omega]

/-- What a round keeps: what lies below n₀, and the row that is gone through. -/
def BackKp (n₀ Bs : Nat) (W W' : World) : Prop := Below n₀ W W' ∧ W'.cell? ⟨Bs, 0, none⟩ = W.cell? ⟨Bs, 0, none⟩
theorem BackKp.refl (n₀ Bs : Nat) (W : World) : BackKp n₀ Bs W W := ⟨Below.refl _ _, rfl⟩
theorem BackKp.trans {n₀ Bs : Nat} {A B C : World} (h : BackKp n₀ Bs A B) (k : BackKp n₀ Bs B C) : BackKp n₀ Bs A C := ⟨h.1.trans k.1, k.2.trans h.2⟩

set_option maxRecDepth 100000 in
set_option maxHeartbeats 2000000 in
theorem back1_in (F : Fence) (n : Nat) (h8 : F.fn 142) (hro : F.round = none) (hn : 1 ≤ n) (l Bs n₀ b off cap : Nat) (ks : List Int) (hreach : ks.length ≤ 1099511627776) (hb : b < n₀) (J Jx : List (Int × Int) → World → Prop)
    (hY : ∀ pre x W, J pre W → pre.length < ks.length → YieldAt F (n - 1) Tryz.prog l #[.int .i64 x.1, .int .i64 x.2] W fun e W' =>
      (e = .returned (.bool true) ∧ J (pre ++ [x]) W' ∧ BackKp n₀ Bs W W') ∨ (e = .returned (.bool false) ∧ Jx (pre ++ [x]) W'))
    (W : World) (hBs : W.cell? ⟨Bs, 0, none⟩ = some (.slice (some ⟨b, off, none⟩) ks.length cap)) (hc : ∀ j, j < ks.length → W.cell? ⟨b, off + j, none⟩ = some (.int .i64 (ks[j]?.getD 0))) (h0 : J [] W) :
    CallsIn F n Tryz.prog 142 #[.func (.yield l) #[] #[], .pointer (some ⟨Bs, 0, none⟩)] W fun e W' => (∃ v, e = .returned v) ∧
      ((∃ ys, ys = backF ks ks.length ∧ J ys W') ∨ (∃ pre, (∃ k, k ≤ ks.length ∧ pre = backF ks k) ∧ Jx pre W')) := by
  refine callsIn_of_wp Tryz.func142 rfl h8 ?_ hro
  simp only [Tryz.ntmps142, List.size_toArray, List.length_cons, List.length_nil, Nat.reduceAdd, Nat.reduceSub, Array.replicate_succ, Array.replicate_zero, List.push_toArray, List.append_toArray, List.nil_append, List.cons_append]
  gi_wp2
  gi_loopw [3] (fun i wr => ∃ k : Nat, k ≤ ks.length ∧ i = .int .i64 ((ks.length : Int) - 1 - (k : Int)) ∧ J (backF ks k) wr ∧ BackKp n₀ Bs W wr)
    (fun i _ => (intOf i + 1).toNat)
  case atStart => exact ⟨0, Nat.zero_le _, by simp, h0, BackKp.refl _ _ _⟩
  case round =>
    obtain ⟨k, hk, rfl, hJs, hnx⟩ := hrel
    have hBs' := hnx.2.trans hBs
    by_cases hlt : k < ks.length
    · obtain ⟨m, hm⟩ : ∃ m : Nat, ks.length = m + k + 1 := ⟨ks.length - 1 - k, by omega⟩
      have e1 : (ks.length : Int) - 1 - (k : Int) = (m : Int) := by omega
      have e2 : ks.length - 1 - k = m := by omega
      have hsucc := backF_succ ks k
      rw [e1, e2] at hsucc
      rw [e1]
      have hcx := (hnx.1.cell (p := ⟨b, off + m, none⟩) hb).trans (hc m (by omega))
      obtain ⟨fn, tmps, assign, body, hy, hR⟩ := hY _ ((m : Int), ks[m]?.getD 0) wr hJs (by rw [backF_len]; exact hlt)
      dsimp only at hy
      have hmI : (m : Int) < (ks.length : Int) := by omega
      have hm0 : (0 : Int) ≤ (m : Int) := by omega
      have HS := Lib.hid hsucc
      have HM := Lib.hid hm
      clear hsucc e1 e2 hm hc
      gi_wp2
      refine hR.mono ?_
      rintro e W3 (⟨rfl, hJ3, hk3⟩ | ⟨rfl, hJx3⟩)
      · gi_wp2
        go_roundw
        case rel => exact ⟨k + 1, by omega, congrArg (Value.int .i64) (by have := HM.out; omega), by rw [HS.out]; exact hJ3, hnx.trans hk3⟩
        case measure => simp only [intOf]; omega
      · gi_wp2
        refine bodyPost_ret (results_none rfl _ _ _) rfl ?_
        exact ⟨⟨_, rfl⟩, .inr ⟨_, ⟨k + 1, by omega, HS.out.symm⟩, hJx3⟩⟩
    · obtain rfl : k = ks.length := by omega
      have e1 : (ks.length : Int) - 1 - (ks.length : Int) = -1 := by omega
      rw [e1]
      clear e1 hlt
      gi_wp2
      go_end0
      exact ⟨⟨_, rfl⟩, .inl ⟨_, rfl, hJs⟩⟩

set_option maxHeartbeats 1000000 in
set_option maxRecDepth 100000 in
theorem back1_nil_in (F : Fence) (n : Nat) (h8 : F.fn 142) (hro : F.round = none) (l Bs : Nat) (ao : Option Addr) (cap : Nat) (J : List (Int × Int) → World → Prop) (W : World) (hBs : W.cell? ⟨Bs, 0, none⟩ = some (.slice ao 0 cap)) (h0 : J [] W) :
    CallsIn F n Tryz.prog 142 #[.func (.yield l) #[] #[], .pointer (some ⟨Bs, 0, none⟩)] W fun e W' => (∃ v, e = .returned v) ∧ J [] W' := by
  refine callsIn_of_wp Tryz.func142 rfl h8 ?_ hro
  simp only [Tryz.ntmps142, List.size_toArray, List.length_cons, List.length_nil, Nat.reduceAdd, Nat.reduceSub, Array.replicate_succ, Array.replicate_zero, List.push_toArray, List.append_toArray, List.nil_append, List.cons_append]
  gi_wp2
  gi_loopw [3] (fun i wr => i = .int .i64 (-1) ∧ J [] wr) (fun _ _ => 0)
  case atStart => exact ⟨rfl, h0⟩
  case round =>
    obtain ⟨rfl, hJs⟩ := hrel
    gi_wp2
    go_end0
    exact ⟨⟨_, rfl⟩, hJs⟩

set_option maxHeartbeats 1000000 in
theorem back_in (F : Fence) (n : Nat) (h6 : F.fn 128) (hro : F.round = none) (a : Option Addr) (len cap : Nat) (w : World) :
    CallsIn F n Tryz.prog 128 #[.slice a len cap] w fun e w' => e = .returned (.func (.func 142) #[] #[.pointer (some ⟨w.heap.size, 0, none⟩)]) ∧ w' = w.alloc (.cells #[.slice a len cap] 49) := by
  refine callsIn_of_wp Tryz.func128 rfl h6 ?_ hro
  simp only [Tryz.ntmps128, List.size_toArray, List.length_cons, List.length_nil, Nat.reduceAdd, Nat.reduceSub, Array.replicate_succ, Array.replicate_zero, List.push_toArray, List.append_toArray, List.nil_append, List.cons_append]
  gi_wp2
  go_ret
  exact ⟨rfl, rfl⟩

theorem back_stops (F : Fence) (n : Nat) (h8 : F.fn 142) (hro : F.round = none) (hn : 1 ≤ n) (Bs n₀ : Nat) (sv : Value) (ks : List Int) (hreach : ks.length ≤ 1099511627776) (w : World) (hBs : Bs < w.heap.size) (hn₀ : n₀ ≤ w.heap.size)
    (hc : w.cell? ⟨Bs, 0, none⟩ = some sv) (hI : Ints n₀ w sv ks) :
    SeqStopsK F n Tryz.prog 142 #[.pointer (some ⟨Bs, 0, none⟩)] (fun x : Int × Int => #[Value.int .i64 x.1, Value.int .i64 x.2]) (BackKp n₀ Bs) (fun ys => ys = backF ks ks.length)
      (fun pre => ∃ k, k ≤ ks.length ∧ pre = backF ks k) ks.length w := fun l J Jx W hW _ _ hY h0 => by
  have hc' := (hW.cell (p := ⟨Bs, 0, none⟩) hBs).trans hc
  obtain ⟨ao, cap, rfl, hcap, hf⟩ := (hI.below (hW.mono hn₀)).form
  by_cases h : 0 < ks.length
  · obtain ⟨b, off, rfl, hb, hcs⟩ := hf h
    exact back1_in F n h8 hro hn l Bs n₀ b off cap ks hreach hb J Jx hY W hc' (fun j hj => by rw [hcs j hj]; simp [hj]) h0
  · obtain rfl : ks = [] := List.length_eq_zero_iff.1 (by omega)
    exact (back1_nil_in F n h8 hro l Bs ao cap J W hc' h0).mono fun e W' ⟨he, hj⟩ => ⟨he, .inl ⟨_, rfl, hj⟩⟩
end Go.Proofs.YtdjkibbnkklajaaGreatDoor
