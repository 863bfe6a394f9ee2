/- The walks of the code that the claim reaches, and the plain laws: ZedW2, ZedW3, BytesRev, IntPlain, DigitsW. No condition of ours. -/
import Derived.Test.YtdjkibbnkklajaaGreatDoorM14
import Derived.Test.YtdjkibbnkklajaaGreatDoorM07
import Derived.Laws.BitsAllLaws
import Derived.WalkKit
import Derived.Deep.LoopGhost
import Derived.Lib.UnsafeStr
import Derived.Lib.Hide
import Derived.Shelf.RegionOpen
import Derived.Test.YtdjkibbnkklajaaGreatDoorM04
import Derived.Test.YtdjkibbnkklajaaGreatDoorM03
import Derived.Lib.ItoaNum
import Derived.Lib.TrimByte
import Derived.BigQuiet
import Derived.Laws.IdiomStrings
import Derived.Test.YtdjkibbnkklajaaGreatDoorM13
namespace Go.Proofs.YtdjkibbnkklajaaGreatDoor
open Go.RowKit Go

set_option maxHeartbeats 1000000 in
set_option maxRecDepth 100000 in
theorem zmade_any (P : Nat → Prop) (ao : Option Addr) (cap : Nat) (ws : List Nat) (w : World) (h : Wd P w (.slice ao ws.length cap) ws) (hn : ws.length ≤ 1099511627776) :
    Calls Tryz.prog 66 #[.bool false, .slice ao ws.length cap] w fun e w' => e = .returned (.agg #[.bool false, .slice ao (trimW ws).length cap]) ∧ Below w.heap.size w w' := by
  have h1 : Wd P (w.alloc (.cells #[.bool false, .slice none 0 0] 34)) (.slice ao ws.length cap) ws := h.frame (Alk.of (below_new w _))
  have HT := Lib.hid (ztrim_any P ao cap ws _ h1 hn)
  clear h h1
  go_enter Tryz.func66, Tryz.ntmps66
  go_wp2_with (go_at_call 64; refine HT.out.mono ?_; rintro e w1 ⟨rfl, rfl⟩)
  refine bodyPost_ret (v := .agg #[.bool false, .slice ao (trimW ws).length cap]) (by simp [results, Tryz.results66, go_sem]) rfl ⟨rfl, ?_⟩
  exact below_new w _

theorem Tryz.infoSet : (Tryz.prog.info? 140).map (fun i => (i.zero, i.size)) = some (some (.agg (Array.replicate 256 (.bool false))), 256) := by kernel_rfl
def tenL : List UInt8 := [48, 49, 50, 51, 52, 53, 54, 55, 56, 57]
set_option maxRecDepth 100000 in
theorem ten_mem {c : UInt8} (h : (decide (48 ≤ c.toNat) && decide (c.toNat ≤ 57)) = true) : tenL.contains c = true := by
  have : ∀ n : Fin 256, (decide (48 ≤ (UInt8.ofNat n.val).toNat) && decide ((UInt8.ofNat n.val).toNat ≤ 57)) = true → tenL.contains (UInt8.ofNat n.val) = true := by decide
  have h1 := this ⟨c.toNat, c.toNat_lt⟩
  rw [UInt8.ofNat_toNat] at h1
  exact h1 h
theorem dw_nil {α : Type} (p : α → Bool) : ∀ (l : List α), (∀ x ∈ l, p x = true) → l.dropWhile p = []
  | [], _ => rfl
  | x :: l, h => by rw [List.dropWhile_cons_of_pos (h x List.mem_cons_self), dw_nil p l fun y hy => h y (List.mem_cons_of_mem _ hy)]
theorem trim_digits {l : List UInt8} (h : digitsB l = true) : Lib.trimS l tenL = [] := by
  have h1 : Lib.trimRightS l tenL = [] := by
    unfold Lib.trimRightS
    have : l.reverse.dropWhile (tenL.contains ·) = [] := dw_nil _ _ fun x hx => ten_mem ((List.all_eq_true.1 h) x (List.mem_reverse.1 hx))
    rw [this, List.reverse_nil]
  unfold Lib.trimS
  rw [h1]
  rfl
theorem cut_digits {l : List UInt8} (h : digitsB l = true) : Lib.hasPrefix l [45] = false := by
  cases l with
  | nil => rfl
  | cons c l =>
    rw [digitsB, List.all_cons, Bool.and_eq_true] at h
    have hc := h.1
    simp only [Bool.and_eq_true, decide_eq_true_eq] at hc
    have : (45 == c) = false := by
      rw [← Bool.not_eq_true, beq_iff_eq]
      rintro rfl
      simp at hc
    simp [Lib.hasPrefix, List.isPrefixOf, this]

theorem val_int {k : IntKind} {a b : Int} (h : a = b) : Value.int k a = Value.int k b := by rw [h]
/-- What a round of Parse does to the words. -/
theorem digits_step {R T : List UInt8} {n : Nat} {ws : List Nat} (hn : n ≤ 9) (hR : n ≤ R.length) (hT : T = R.take n) (hd : digitsB R = true) (hw : ∀ x ∈ ws, x < 4294967296) (hp : 10 ^ n ≤ 1000000000) :
    digitsB (R.drop n) = true ∧ magV (trimW (scaleF (10 ^ n) ws (decV T))) * 10 ^ (R.drop n).length + decV (R.drop n) = magV ws * 10 ^ R.length + decV R := by
  have e1 : R = R.take n ++ R.drop n := (List.take_append_drop n R).symm
  have ed : digitsB (R.take n) = true ∧ digitsB (R.drop n) = true := by
    rw [e1, digitsB, List.all_append, Bool.and_eq_true] at hd; exact hd
  have hl : (R.take n).length = n := by rw [List.length_take]; omega
  have hv := decV_lt _ ed.1
  rw [hl] at hv
  refine ⟨ed.2, ?_⟩
  rw [hT, magV_trim, magV_scale _ hp _ _ hw (by omega)]
  have e2 : decV R = decV (R.take n) * 10 ^ (R.drop n).length + decV (R.drop n) := by
    conv => lhs; rw [e1]
    exact decV_append _ _
  rw [e2, Nat.add_mul, Nat.mul_assoc, ← Nat.pow_add, List.length_drop, show n + (R.length - n) = R.length by omega]
  omega

set_option maxHeartbeats 2000000 in
set_option maxRecDepth 100000 in
theorem zparse_any (s : ByteArray) (w : World) (h0 : 0 < s.size) (h60 : s.size ≤ 60) (hd : digitsB s.data.toList = true) (hz : s.data.toList.head? = some 48 → s.size = 1) :
    Calls Tryz.prog 40 #[.string s] w (ZPost (decV s.data.toList) w) := by
  have hcut := Tryz.strings_CutPrefix s ⟨#[45]⟩ (w.alloc (.cells #[.bool false, .slice none 0 0] 34))
  have e1 : Lib.hasPrefix s.data.toList (ByteArray.mk #[45]).data.toList = false := cut_digits hd
  have e2 : Lib.trimPrefix s.data.toList (ByteArray.mk #[45]).data.toList = s.data.toList := by rw [Lib.trimPrefix, e1]; rfl
  rw [e1, e2, show ByteArray.mk s.data.toList.toArray = s by cases s; simp] at hcut
  have HC := Lib.hid hcut
  have htr : ∀ W : World, Calls Tryz.prog 63 #[.string s, .string ⟨#[48, 49, 50, 51, 52, 53, 54, 55, 56, 57]⟩] W fun e w' => e = .returned (.string ⟨#[]⟩) ∧ Below W.heap.size W w' := fun W => by
    have := Any.strings_Trim_laid Tryz.lays160 Tryz.infoSet s ⟨#[48, 49, 50, 51, 52, 53, 54, 55, 56, 57]⟩ W (by omega) (by decide) (ascii_of_all (by decide))
    rw [show (ByteArray.mk #[48, 49, 50, 51, 52, 53, 54, 55, 56, 57]).data.toList = tenL from rfl, trim_digits hd] at this
    exact this
  have HTr := Lib.hid htr
  have hne : s.toList.isEmpty = false := by rw [isEmpty_size]; exact decide_eq_false (by omega)
  have hne2 : (s.toList == []) = false := by
    rw [← Bool.not_eq_true, beq_iff_eq]
    intro q
    rw [q] at hne
    cases hne
  have HD := Lib.hid hd
  have hlast : ((((s[0]'h0).toNat : Int) == 48) = false ∨ ((((s[0]'h0).toNat : Int) == 48) = true ∧ decide ((1 : Int) < (s.size : Int)) = false)) := by
    by_cases q : ((s[0]'h0).toNat : Int) = 48
    · right
      refine ⟨by simpa using q, decide_eq_false ?_⟩
      have : s.size = 1 := by
        apply hz
        obtain ⟨r, hr⟩ := head_cons h0
        rw [hr, List.head?_cons]
        congr 1
        exact UInt8.toNat_inj.1 (show (s[0]'h0).toNat = 48 by omega)
      omega
    · left; simpa using q
  clear hcut e1 e2 htr hz hd
  have h0I : (0 : Int) < (s.size : Int) := by omega
  have h60I : (s.size : Int) ≤ 60 := by omega
  have hg := heap_alloc_new w (.cells #[.bool false, .slice none 0 0] 34)
  have hbw := below_new w (.cells #[.bool false, .slice none 0 0] 34)
  go_enter Tryz.func40, Tryz.ntmps40
  go_upto_region 4 with (go_at_call 62; refine HC.out.mono ?_; rintro e w1 ⟨rfl, rfl⟩)
  generalize w.alloc _ = w2 at hg hbw ⊢
  go_cut [4, 5, 22] (fun r ng t wx => r = .string s ∧ ng = .bool false ∧ t = .bool false ∧ wx.heap[w.heap.size]? = some (.cells #[.bool false, .slice none 0 0] 34 (0, 0)) ∧ Below w.heap.size w wx)
  case first =>
    rcases hlast with hl | ⟨hl, hl2⟩
    · go_wp2_with (go_at_call 63; refine (HTr.out _).mono ?_; rintro e w1 ⟨rfl, hb1⟩)
      go_meet
      exact ⟨rfl, rfl, rfl, (hb1.block _ (Array.getElem?_eq_some_iff.1 hg).1).trans hg, hbw.trans (hb1.mono hbw.size)⟩
    · go_wp2_with (go_at_call 63; refine (HTr.out _).mono ?_; rintro e w1 ⟨rfl, hb1⟩)
      go_meet
      exact ⟨rfl, rfl, rfl, (hb1.block _ (Array.getElem?_eq_some_iff.1 hg).1).trans hg, hbw.trans (hb1.mono hbw.size)⟩
  case rest =>
    obtain ⟨rfl, rfl, rfl, hg2, hbc⟩ := hcut
    clear hne hne2 hlast hg hbw HTr HC
    obtain ⟨wo, rfl⟩ : ∃ wo : World, wo = wc := ⟨_, rfl⟩
    go_wp2
    go_loopw [4, 6] (fun rv mv wr => ∃ (R : ByteArray) (ws : List Nat) (ao : Option Addr) (cap : Nat), rv = .string R ∧ mv = .slice ao ws.length cap ∧ Wd (fun b => w.heap.size < b) wr (.slice ao ws.length cap) ws ∧ trimW ws = ws ∧ (∀ x ∈ ws, x < 4294967296) ∧ ws.length + R.size ≤ 60 ∧ digitsB R.data.toList = true ∧ magV ws * 10 ^ R.size + decV R.data.toList = decV s.data.toList ∧ wr.heap[w.heap.size]? = some (.cells #[.bool false, .slice none 0 0] 34 (0, 0)) ∧ Below w.heap.size w wr) (fun rv _ _ => strLen rv)
    case atStart => exact ⟨s, [], none, 0, rfl, rfl, SlP.nil _ _ _, rfl, fun x hx => (by cases hx), by simpa using h60, HD.out, by simp [magV], hg2, hbc⟩
    case round =>
      obtain ⟨R, ws, ao, cap, rfl, rfl, hW, htr, hlt, hsz, hdg, hval, hg3, hbl⟩ := hrel
      by_cases hR : 0 < R.size
      · obtain ⟨n, hn⟩ : ∃ n, n = min 9 R.size := ⟨_, rfl⟩
        have hn9 : n ≤ 9 := by omega
        have hnR : n ≤ R.size := by omega
        have hn0 : 0 < n := by omega
        have hmin : min (9 : Int) (R.size : Int) = (n : Int) := by omega
        have hRI : (0 : Int) < (R.size : Int) := by omega
        have hR60 : (R.size : Int) ≤ 60 := by omega
        have HN := Lib.hid hn
        have hcv := fun (W : World) => run_bytes_of_string (P := Tryz.prog) W 9 73 5 (R.extract 0 n) Tryz.underlying9 Tryz.underlying73 Tryz.underlying5
        have hTs : (R.extract 0 n).size = n := by rw [ByteArray.size_extract]; omega
        rw [hTs] at hcv
        have HTs := Lib.hid hTs
        have HV := Lib.hid hval
        have HDG := Lib.hid hdg
        have HLT := Lib.hid hlt
        have HTR := Lib.hid htr
        clear hTs hn hval hdg hlt htr
        have hz := hbl.size
        have hlw := (Array.getElem?_eq_some_iff.1 hg3).1
        have hTl : (R.extract 0 n).data.toList = R.data.toList.take n := by rw [extract_list, List.drop_zero]
        have hcel : ∀ (cap' : Nat) (fr : Nat × Nat) (j : Nat) (hj : j < n), (wr.alloc (.cells (bytesRow (R.extract 0 n) cap') 5 fr)).drew.cell? ⟨wr.heap.size, j, none⟩ = some (.int .u8 (((R.extract 0 n).data[j]'(by have := HTs.out; show j < (R.extract 0 n).size; omega)).toNat : Nat)) := fun cap' fr j hj => by
          have hs : j < (R.extract 0 n).data.size := by have := HTs.out; show j < (R.extract 0 n).size; omega
          rw [Lib.cell_of_heap (show (wr.alloc (.cells (bytesRow (R.extract 0 n) cap') 5 fr)).drew.heap[wr.heap.size]? = some (.cells (bytesRow (R.extract 0 n) cap') 5 fr) from heap_alloc_new wr _)]
          exact bytesRow_at _ _ _ hs
        have HCL := Lib.hid hcel
        clear hcel
        go_wp2
        clear hcv
        have hcl := HCL.out (grownCap wr n 0 5) ((bytesRow (R.extract 0 n) (grownCap wr n 0 5)).size, (bytesRow (R.extract 0 n) (grownCap wr n 0 5)).size + 1)
        have hbx : Below wr.heap.size wr (wr.alloc (.cells (bytesRow (R.extract 0 n) (grownCap wr n 0 5)) 5 ((bytesRow (R.extract 0 n) (grownCap wr n 0 5)).size, (bytesRow (R.extract 0 n) (grownCap wr n 0 5)).size + 1))).drew := ((Below.refl _ _).alloc (Nat.le_refl _) _).drew
        have hsx : wr.heap.size < (wr.alloc (.cells (bytesRow (R.extract 0 n) (grownCap wr n 0 5)) 5 ((bytesRow (R.extract 0 n) (grownCap wr n 0 5)).size, (bytesRow (R.extract 0 n) (grownCap wr n 0 5)).size + 1))).drew.heap.size := by simp
        generalize (wr.alloc (.cells (bytesRow (R.extract 0 n) (grownCap wr n 0 5)) 5 _)).drew = wx at hcl hbx hsx ⊢
        have HC2 := Lib.hid hcl
        clear hcl HCL
        have hTd : digitsB (R.extract 0 n).data.toList = true := by
          have := HDG.out
          rw [hTl, digitsB, List.all_eq_true]
          rw [digitsB, List.all_eq_true] at this
          exact fun x hx => this x (List.mem_of_mem_take hx)
        have HTd := Lib.hid hTd
        have HTl := Lib.hid hTl
        clear hTd hTl
        go_loop [8, 9, 55] (fun bv pv q => ∃ k : Nat, k ≤ n ∧ q = .int .i64 k ∧ bv = .int .u64 ((10 ^ k : Nat) : Nat) ∧ pv = .int .u64 (decV ((R.extract 0 n).data.toList.take k) : Nat)) (fun _ _ q => n - (intOf q).toNat)
        case atStart => exact ⟨0, Nat.zero_le _, rfl, rfl, by rw [List.take_zero]; rfl⟩
        case round =>
          obtain ⟨k, hk, rfl, rfl, rfl⟩ := hrel
          have hT1 := HTs.out
          have hT2 : (R.extract 0 n).data.toList.length = n := by rw [size_list]; exact hT1
          by_cases hkn : k < n
          · have hx := HC2.out k hkn
            have hkd : k < (R.extract 0 n).data.toList.length := by omega
            have hgk : (R.extract 0 n).data[k]'(by have := HTs.out; show k < (R.extract 0 n).size; omega) = (R.extract 0 n).data.toList[k]'hkd := by simp
            have hcb := (List.all_eq_true.1 HTd.out) _ (List.getElem_mem hkd)
            simp only [Bool.and_eq_true, decide_eq_true_eq] at hcb
            have hsn : decV ((R.extract 0 n).data.toList.take (k + 1)) = decV ((R.extract 0 n).data.toList.take k) * 10 + (((R.extract 0 n).data.toList[k]'hkd).toNat - 48) := by
              rw [List.take_succ_eq_append_getElem hkd, decV_snoc]
            have hpw : (10 : Nat) ^ (k + 1) = 10 ^ k * 10 := Nat.pow_succ ..
            have hp8 : (10 : Nat) ^ k ≤ 100000000 := Nat.pow_le_pow_right (by omega) (by omega : k ≤ 8)
            have hdl : decV ((R.extract 0 n).data.toList.take k) < 10 ^ ((R.extract 0 n).data.toList.take k).length := decV_lt _ (by
              rw [digitsB, List.all_eq_true]
              exact fun x hx => (List.all_eq_true.1 HTd.out) x (List.mem_of_mem_take hx))
            rw [List.length_take, Nat.min_eq_left (by omega)] at hdl
            rw [hgk] at hx
            generalize (R.extract 0 n).data.toList[k]'hkd = ch at hx hcb hsn
            obtain ⟨cn, hcn⟩ : ∃ cn, ch.toNat = cn := ⟨_, rfl⟩
            rw [hcn] at hx hcb hsn
            have HS := Lib.hid hsn
            have HP := Lib.hid hpw
            clear hsn hpw hgk hcn hT1 hT2 hkd
            generalize decV ((R.extract 0 n).data.toList.take k) = p at hdl HS
            generalize (10 : Nat) ^ k = a at hp8 hdl HP
            have hkI : (k : Int) < (n : Int) := by omega
            go_wp2
            exact ⟨⟨k + 1, by omega, by go_num, by rw [HP.out]; exact val_int (by omega), by rw [HS.out]; exact val_int (by omega)⟩, by simp [intOf]; omega⟩
          · obtain rfl : k = n := by omega
            have hTk : (R.extract 0 k).data.toList.take k = (R.extract 0 k).data.toList := List.take_of_length_le (by omega)
            have hdl := decV_lt _ HTd.out
            rw [hT2] at hdl
            have hp9 := pow_le9 hn9
            have hWx : Wd (fun b => w.heap.size < b) wx (.slice ao ws.length cap) ws := SlP.frame hW (Alk.of hbx)
            have HSC := Lib.hid (scale_any (fun b => w.heap.size < b) (.slice ao ws.length cap) ws (10 ^ k) (decV (R.extract 0 k).data.toList) wx hWx HLT.out hp9 (by omega) (by omega))
            have hnR' : k ≤ R.data.toList.length := by rw [size_list]; exact hnR
            have hstep := digits_step (ws := ws) hn9 hnR' HTl.out HDG.out HLT.out hp9
            have HST := Lib.hid hstep
            rw [hTk]
            clear hstep hTk hdl hWx hT1 hT2
            generalize (10 : Nat) ^ k = a at HSC HST hp9 ⊢
            generalize decV (R.extract 0 k).data.toList = p at HSC HST ⊢
            have hkI : decide ((k : Int) < (k : Int)) = false := decide_eq_false (by omega)
            go_wp2_with (go_at_call 65; refine HSC.out.mono ?_)
            rintro e w7 ⟨v, rfl, hown, hb7⟩
            obtain ⟨g, cap2, rfl, _, _⟩ := hown.form (by rw [scaleF_len]; omega)
            have hWs : Wd (fun b => w.heap.size < b) w7 (.slice (some ⟨g, 0, none⟩) (scaleF a ws p).length cap2) (scaleF a ws p) := SlP.ofOwns hown fun b hb => by omega
            have HT := Lib.hid (ztrim_any _ (some ⟨g, 0, none⟩) cap2 (scaleF a ws p) w7 hWs (by rw [scaleF_len]; omega))
            have HWs := Lib.hid hWs
            have G := (hb7.block w.heap.size (by omega)).trans ((hbx.block w.heap.size hlw).trans hg3)
            have hbl7 := hbl.trans ((hbx.trans (hb7.mono (Nat.le_of_lt hsx))).mono hz)
            clear hown hWs HSC
            go_wp2_with (go_at_call 64; refine HT.out.mono ?_; rintro e w8 ⟨rfl, rfl⟩)
            go_roundw
            case rel =>
              have hex : (R.extract k R.size).size = R.size - k := by rw [ByteArray.size_extract]; omega
              have hel : (R.extract k R.size).data.toList = R.data.toList.drop k := by rw [extract_list, List.take_of_length_le (by rw [size_list]; exact Nat.le_refl _)]
              have htl := trimW_len (scaleF a ws p)
              rw [scaleF_len] at htl
              obtain ⟨s1, s2⟩ := HST.out
              have e1 : (R.data.toList.drop k).length = R.size - k := by rw [List.length_drop, size_list]
              rw [e1, size_list] at s2
              refine ⟨R.extract k R.size, trimW (scaleF a ws p), some ⟨g, 0, none⟩, cap2, rfl, rfl, ?_, trimW_idem _, fun x hx => scaleF_lt _ _ _ _ (trimW_mem _ _ hx), by omega, by rw [hel]; exact s1, by rw [hex, hel, s2]; exact HV.out, G, hbl7⟩
              obtain ⟨n', n1, n2, _, _⟩ := trimW_take (scaleF a ws p)
              have hl : (trimW (scaleF a ws p)).length = n' := by rw [n2, List.length_take]; omega
              rw [hl, n2]
              exact HWs.out.take n1
            case measure =>
              show (R.extract k R.size).size < R.size
              rw [ByteArray.size_extract]
              omega
      · have hR0 : R.size = 0 := by omega
        have hRl : R.data.toList = [] := List.length_eq_zero_iff.1 (by rw [size_list]; exact hR0)
        rw [hRl, hR0] at hval
        have hv2 : magV ws = decV s.data.toList := by simpa [decV] using hval
        have HV := Lib.hid hv2
        have HLT := Lib.hid hlt
        have HTR := Lib.hid htr
        have hM := zmade_any (fun b => w.heap.size < b) ao cap ws wr hW (by omega)
        rw [htr] at hM
        have HM := Lib.hid hM
        have hRI : (R.size : Int) ≤ 0 := by omega
        have hz := hbl.size
        clear hv2 hval hRl hdg hlt htr hM
        go_wp2_with (go_at_call 66; refine HM.out.mono ?_)
        rintro e w6 ⟨rfl, hb6⟩
        have G := (hb6.block w.heap.size (Array.getElem?_eq_some_iff.1 hg3).1).trans hg3
        have d0 : w6.cell? ⟨w.heap.size, 0, none⟩ = some (.bool false) := by rw [Lib.cell_of_heap G]; rfl
        have d1 : w6.cell? ⟨w.heap.size, 1, none⟩ = some (.slice none 0 0) := by rw [Lib.cell_of_heap G]; rfl
        have dz : ∀ j, w6.frozen? ⟨w.heap.size, j, none⟩ = false := by intro j; simp [World.frozen?, G]
        go_wp2
        have hs2 := hb6.size
        refine bodyPost_ret (v := .tuple #[.agg #[.bool false, .slice ao ws.length cap], .int .i64 0]) (by simp [results, Tryz.results40, go_sem, d0, d1]) rfl ⟨ao, ws.length, cap, rfl, ⟨ws, ?_, HTR.out, HLT.out, by rw [HV.out]; simp⟩, ?_⟩
        · have h1 := hW.frame (Alk.of hb6)
          have h2 := h1.frame (Alk.set (a := ⟨w.heap.size, 0, none⟩) (.bool false) fun b hb => by show b ≠ w.heap.size; omega)
          have h3 := h2.frame (Alk.set (a := ⟨w.heap.size, 1, none⟩) (.slice ao ws.length cap) fun b hb => by show b ≠ w.heap.size; omega)
          exact h3.imp fun b hb _ => Nat.le_of_lt hb
        · exact ((hbl.trans (hb6.mono hz)).setCell (Nat.le_refl _) _).setCell (Nat.le_refl _) _
end Go.Proofs.YtdjkibbnkklajaaGreatDoor

namespace Go.Proofs.YtdjkibbnkklajaaGreatDoor
open Go.RowKit Go

theorem or_words (r x : Nat) (hr : r < 4294967296) (hx : x < 4294967296) : bits BinOp.or IntKind.u64 ((r : Int) * 4294967296) (x : Int) = (r : Int) * 4294967296 + (x : Int) := by
  have e : ((r : Int) * 4294967296) = ((r * 4294967296 : Nat) : Int) := by omega
  have h : (r * 4294967296) ||| x = r * 4294967296 + x := by
    rw [show (4294967296 : Nat) = 2 ^ 32 from rfl, ← Nat.shiftLeft_eq, Nat.shiftLeft_add_eq_or_of_lt (by omega)]
  rw [e, u64_or_nat _ _ (by omega) (by omega), h]
  omega

theorem set_last {α : Type} (z v : α) (k : Nat) (L : List α) : (List.replicate (k + 1) z ++ L).set k v = List.replicate k z ++ v :: L := by
  rw [List.replicate_succ', List.append_assoc, List.set_append_right _ _ (by simp), List.length_replicate, Nat.sub_self]
  rfl
/-- What short leaves. -/
def ShortPost (b : Nat) (ws : List Nat) (w : World) (e : Ending) (w' : World) : Prop :=
  ∃ cap, e = .returned (.tuple #[.slice (some ⟨w.heap.size, 0, none⟩) (trimW (shortF b ws).1).length cap, .int .u64 ((shortF b ws).2 : Nat)]) ∧ Wd (fun k => w.heap.size ≤ k) w' (.slice (some ⟨w.heap.size, 0, none⟩) (trimW (shortF b ws).1).length cap) (trimW (shortF b ws).1) ∧ Below w.heap.size w w'

set_option maxHeartbeats 1000000 in
set_option maxRecDepth 100000 in
theorem zshort_any (P : Nat → Prop) (ao : Option Addr) (cap : Nat) (ws : List Nat) (b : Nat) (w : World) (h : Wd P w (.slice ao ws.length cap) ws) (hw : ∀ x ∈ ws, x < 4294967296) (hb : 0 < b) (hb9 : b ≤ 1000000000) (hn : ws.length ≤ 1000) :
    Calls Tryz.prog 69 #[.slice ao ws.length cap, .int .u64 b] w (ShortPost b ws w) := by
  obtain ⟨i0, hi, hz0, hz1, hz2⟩ := info_parts Tryz.infoU32
  obtain ⟨ao', cap', hv, hc1, hf⟩ := h.form
  simp only [Value.slice.injEq] at hv
  obtain ⟨rfl, -, rfl⟩ := hv
  have HF := Lib.hid hf
  have HW := Lib.hid hw
  have hmk := run_make (P := Tryz.prog) w 32 145 i0 (.int .u32 0) Tryz.underlying32 hi hz0 .i64 .i64 ws.length ws.length (by omega) (by omega) (by rw [hz2]; omega) (by omega)
  rw [hz1] at hmk
  clear hf h hw
  go_enter Tryz.func69, Tryz.ntmps69
  go_wp2
  have hnew := heap_alloc_new w (.cells (madeCells #[Value.int .u32 0] ws.length) 145)
  have hbw := below_new w (.cells (madeCells #[Value.int .u32 0] ws.length) 145)
  clear hmk
  generalize w.alloc _ = w2 at hnew hbw ⊢
  go_loopw [7, 8] (fun rv q wr => ∃ (k : Nat) (i : Int) (cs : Array Value), k ≤ ws.length ∧ q = .int .i64 i ∧ i + 1 = (k : Int) ∧ rv = .int .u64 ((shortF b (ws.drop k)).2 : Nat) ∧ wr.heap[w.heap.size]? = some (.cells cs 145 (0, 0)) ∧ cs.toList = List.replicate k (.int .u32 0) ++ (shortF b (ws.drop k)).1.map (fun d => .int .u32 (d : Nat)) ∧ Below w.heap.size w wr) (fun _ q _ => (intOf q + 1).toNat)
  case atStart => exact ⟨ws.length, _, _, Nat.le_refl _, rfl, by omega, by rw [List.drop_length]; rfl, hnew, by rw [toList_madeCells_one, List.drop_length]; simp [shortF], hbw⟩
  case round =>
    obtain ⟨k, i, cs, hk, rfl, hik, rfl, hcs, hcl, hbl⟩ := hrel
    have hz := hbl.size
    cases k with
    | zero =>
      obtain rfl : i = -1 := by omega
      rw [List.drop_zero] at hcl ⊢
      rw [List.replicate_zero, List.nil_append] at hcl
      have hsl := shortF_len b ws
      have hWd : Wd (fun k => w.heap.size ≤ k) wr (.slice (some ⟨w.heap.size, 0, none⟩) (shortF b ws).1.length ws.length) (shortF b ws).1 := by
        refine ⟨_, _, rfl, by rw [hsl]; exact Nat.le_refl _, by simp, fun h0 => ⟨w.heap.size, 0, rfl, Nat.le_refl _, (Array.getElem?_eq_some_iff.1 hcs).1, fun j hj => ?_⟩⟩
        rw [Lib.cell_of_heap hcs, Nat.zero_add, ← Array.getElem?_toList, hcl, List.getElem?_eq_getElem hj]
      have hT := ztrim_any _ (some ⟨w.heap.size, 0, none⟩) ws.length (shortF b ws).1 wr hWd (by omega)
      obtain ⟨n, n1, n2, _, _⟩ := trimW_take (shortF b ws).1
      have hln : (trimW (shortF b ws).1).length = n := by rw [n2, List.length_take]; omega
      have hW2 : Wd (fun k => w.heap.size ≤ k) wr (.slice (some ⟨w.heap.size, 0, none⟩) (trimW (shortF b ws).1).length ws.length) (trimW (shortF b ws).1) := by
        rw [hln, n2]
        exact hWd.take n1
      rw [hsl] at hT
      have HT := Lib.hid hT
      have HW2 := Lib.hid hW2
      clear hT hW2 hWd hsl hln n1 n2 hcl
      go_wp2_with (go_at_call 64; refine HT.out.mono ?_; rintro e w8 ⟨rfl, rfl⟩)
      go_ret2
      exact ⟨_, rfl, HW2.out, hbl⟩
    | succ k =>
      obtain rfl : i = (k : Int) := by omega
      obtain ⟨bk, off, rfl, _, hbk, hcell⟩ := HF.out (by omega)
      have hx := (hbl.cell (p := ⟨bk, off + k, none⟩) hbk).trans (hcell k (by omega))
      have hxw := HW.out ws[k] (List.getElem_mem (by omega))
      have hdr : ws.drop k = ws[k] :: ws.drop (k + 1) := List.drop_eq_getElem_cons (by omega)
      have hr := shortF_rest b hb (ws.drop (k + 1))
      have hsh : shortF b (ws.drop k) = (((shortF b (ws.drop (k + 1))).2 * 4294967296 + ws[k]) / b :: (shortF b (ws.drop (k + 1))).1, ((shortF b (ws.drop (k + 1))).2 * 4294967296 + ws[k]) % b) := by rw [hdr, shortF]
      have HS := Lib.hid hsh
      have HCL := Lib.hid hcl
      generalize (shortF b (ws.drop (k + 1))).2 = r at hr HS ⊢
      generalize ws[k] = x at hx hxw HS
      have hkI : (k : Int) < (ws.length : Int) := by omega
      clear hcell hdr hsh hcl
      have hlt := (Array.getElem?_eq_some_iff.1 hcs).1
      have hor := or_words r x (by omega) hxw
      have hk0 : cs.toList[k]? = some (.int .u32 0) := by
        rw [HCL.out, List.getElem?_append_left (by simp), List.getElem?_replicate, if_pos (by omega)]
      have o0 : wr.cell? ⟨w.heap.size, k, none⟩ = some (.int .u32 0) := by rw [Lib.cell_of_heap hcs, ← Array.getElem?_toList]; exact hk0
      have oz : ∀ j, wr.frozen? ⟨w.heap.size, j, none⟩ = false := by intro j; simp [World.frozen?, hcs]
      clear hk0
      have hq : (r * 4294967296 + x) / b < 4294967296 := by
        rw [Nat.div_lt_iff_lt_mul hb]
        have : (r + 1) * 4294967296 ≤ b * 4294967296 := Nat.mul_le_mul_right _ hr
        rw [Nat.mul_comm 4294967296 b]
        omega
      have e1 : ((r : Int) * 4294967296 + (x : Int)) % (b : Int) = (((r * 4294967296 + x) % b : Nat) : Int) := by
        rw [Int.natCast_emod]
        congr 1
      have e2 : ((r : Int) * 4294967296 + (x : Int)) / (b : Int) % 4294967296 = (((r * 4294967296 + x) / b : Nat) : Int) := by
        have e3 : ((r : Int) * 4294967296 + (x : Int)) / (b : Int) = (((r * 4294967296 + x) / b : Nat) : Int) := by
          rw [Int.natCast_ediv]
          congr 1
        rw [e3]
        generalize (r * 4294967296 + x) / b = qq at hq ⊢
        omega
      have E1 := Lib.hid e1
      have E2 := Lib.hid e2
      clear e1 e2
      go_wp2
      refine ⟨⟨k, (k : Int) - 1, _, by omega, rfl, by omega, by rw [HS.out]; exact val_int E1.out, heap_setCell_same wr w.heap.size k _ _ _ hcs, ?_, hbl.setCell (Nat.le_refl _) _⟩, by simp [intOf]⟩
      rw [Array.toList_setIfInBounds, HCL.out, set_last, HS.out, E2.out]
      rfl
end Go.Proofs.YtdjkibbnkklajaaGreatDoor

namespace Go.Proofs.YtdjkibbnkklajaaGreatDoor
open Go.RowKit Go

def RevPost (bk : Nat) (l : List UInt8) (rest : List Value) (fr : Nat × Nat) (w : World) (e : Ending) (w' : World) : Prop :=
  e = .returned (.tuple #[]) ∧ w'.heap[bk]? = some (.cells (Lib.byteCells l.reverse ++ rest).toArray 5 fr) ∧ w'.heap.size = w.heap.size ∧ (∀ q, q ≠ bk → w'.heap[q]? = w.heap[q]?) ∧ Below bk w w'

theorem drew_heap (w : World) : w.drew.heap = w.heap := rfl
theorem split_ends {α : Type} : ∀ (M : List α), 2 ≤ M.length → ∃ x N y, M = x :: (N ++ [y])
  | [], h => absurd h (by simp)
  | [x], h => absurd h (by simp)
  | x :: y :: l, _ => ⟨x, (y :: l).dropLast, (y :: l).getLast (by simp), by rw [List.dropLast_concat_getLast]⟩

theorem swap_ends {α : Type} (A N C : List α) (x y : α) : ((A ++ (x :: (N ++ y :: C))).set A.length y).set (A.length + N.length + 1) x = A ++ (y :: (N ++ x :: C)) := by
  rw [List.set_append_right _ _ (Nat.le_refl _), Nat.sub_self, List.set_cons_zero, List.set_append_right _ _ (by omega), show A.length + N.length + 1 - A.length = N.length + 1 by omega, List.set_cons_succ, List.set_append_right _ _ (Nat.le_refl _), Nat.sub_self, List.set_cons_zero]

theorem heap_set_fr (w : World) (b i : Nat) (cs : Array Value) (T : TypeId) (fr : Nat × Nat) (v : Value) (hb : w.heap[b]? = some (.cells cs T fr)) :
    (w.setCell ⟨b, i, none⟩ v).heap[b]? = some (.cells (cs.setIfInBounds i v) T fr) := by
  simp [World.setCell, Array.getElem?_modify, hb]

set_option maxHeartbeats 1000000 in
set_option maxRecDepth 100000 in
theorem byteRev_any (bk cap : Nat) (l : List UInt8) (rest : List Value) (fr : Nat × Nat) (w : World) (h : w.heap[bk]? = some (.cells (Lib.byteCells l ++ rest).toArray 5 fr)) (hf : l.length ≤ fr.1) (hn : l.length ≤ 1099511627776) :
    Calls Tryz.prog 71 #[.slice (some ⟨bk, 0, none⟩) l.length cap] w (RevPost bk l rest fr w) := by
  go_enter Tryz.func71, Tryz.ntmps71
  go_wp2
  go_loopg [2, 3] l.length (fun k s2 s3 wr => ∃ (A M C : List UInt8), s2 = .int .i64 (A.length : Nat) ∧ s3 = .int .i64 ((A.length : Int) + (M.length : Int) - 1) ∧ M.length ≤ k ∧ l = C.reverse ++ M ++ A.reverse ∧
    wr.heap[bk]? = some (.cells (Lib.byteCells (A ++ M ++ C) ++ rest).toArray 5 fr) ∧ wr.heap.size = w.heap.size ∧ (∀ q, q ≠ bk → wr.heap[q]? = w.heap[q]?) ∧ Below bk w wr)
  case atStart => exact ⟨[], l, [], rfl, by simp, Nat.le_refl _, by simp, by simpa using h, rfl, fun _ _ => rfl, Below.refl _ _⟩
  case round =>
    obtain ⟨A, M, C, rfl, rfl, hk, hl, hh, hsz, hoth, hbl⟩ := hrel
    have hlen : l.length = C.length + M.length + A.length := by rw [hl]; simp; omega
    by_cases hlt : 2 ≤ M.length
    · obtain ⟨x, N, y, rfl⟩ := split_ends M hlt
      have hI : (A.length : Int) < (A.length : Int) + ((x :: (N ++ [y])).length : Int) - 1 := by simp only [List.length_cons] at hlt ⊢; omega
      have hj : (A.length : Int) + ((x :: (N ++ [y])).length : Int) - 1 = ((A.length + N.length + 1 : Nat) : Int) := by simp; omega
      simp only [List.length_cons, List.length_append, List.length_nil] at hlen hk
      rw [hj] at hI ⊢
      have e : A ++ (x :: (N ++ [y])) ++ C = A ++ (x :: (N ++ y :: C)) := by simp
      rw [e] at hh
      have ci : wr.cell? ⟨bk, A.length, none⟩ = some (.int .u8 x.toNat) := by
        rw [Lib.cell_of_heap hh]
        simp [Lib.byteCells]
      have cj : wr.cell? ⟨bk, A.length + N.length + 1, none⟩ = some (.int .u8 y.toNat) := by
        rw [Lib.cell_of_heap hh, List.getElem?_toArray, Lib.byteCells, List.map_append, List.append_assoc, List.getElem?_append_right (by simp; omega)]
        simp only [List.length_map]
        rw [show A.length + N.length + 1 - A.length = N.length + 1 by omega, List.map_cons, List.cons_append, List.getElem?_cons_succ, List.map_append, List.append_assoc, List.getElem?_append_right (by simp)]
        simp
      have fi : wr.frozen? ⟨bk, A.length, none⟩ = false := by
        simp [World.frozen?, hh]
        omega
      have fj : wr.frozen? ⟨bk, A.length + N.length + 1, none⟩ = false := by
        simp [World.frozen?, hh]
        omega
      have h1 := heap_set_fr wr bk A.length _ _ _ (.int .u8 y.toNat) hh
      have h2 := heap_set_fr _ bk (A.length + N.length + 1) _ _ _ (.int .u8 x.toNat) h1
      have HL := Lib.hid hl
      have HH := Lib.hid hh
      have H2 := Lib.hid h2
      have HO := Lib.hid hoth
      clear hj hl hh h1 h2 hoth e
      go_wp2_with fail
      go_region
      go_wp2
      go_roundg N.length
      case measure => omega
      case rel =>
        refine ⟨A ++ [y], N, x :: C, by simp, by simp; omega, Nat.le_refl _, by rw [HL.out]; simp, ?_, ?_, ?_, ((hbl.setCell (Nat.le_refl _) _).setCell (Nat.le_refl _) _).drew⟩
        · rw [drew_heap, H2.out]
          have e2 : ((Lib.byteCells (A ++ x :: (N ++ y :: C)) ++ rest).toArray.setIfInBounds A.length (.int .u8 y.toNat)).setIfInBounds (A.length + N.length + 1) (.int .u8 x.toNat) = (Lib.byteCells (A ++ [y] ++ N ++ x :: C) ++ rest).toArray := by
            have := swap_ends (Lib.byteCells A) (Lib.byteCells N) (Lib.byteCells C ++ rest) (.int .u8 x.toNat) (.int .u8 y.toNat)
            simp only [Lib.byteCells_length] at this
            apply Array.toList_inj.1
            simp only [Array.toList_setIfInBounds]
            have e3 : Lib.byteCells (A ++ x :: (N ++ y :: C)) ++ rest = Lib.byteCells A ++ (.int .u8 x.toNat :: (Lib.byteCells N ++ .int .u8 y.toNat :: (Lib.byteCells C ++ rest))) := by simp [Lib.byteCells]
            have e4 : Lib.byteCells (A ++ [y] ++ N ++ x :: C) ++ rest = Lib.byteCells A ++ (.int .u8 y.toNat :: (Lib.byteCells N ++ .int .u8 x.toNat :: (Lib.byteCells C ++ rest))) := by simp [Lib.byteCells]
            rw [e3, e4, this]
          rw [e2]
        · simpa using hsz
        · intro q hq
          rw [drew_heap, heap_setCell_other _ _ _ _ hq, heap_setCell_other _ _ _ _ hq]
          exact HO.out q hq
    · have hI : decide ((A.length : Int) < (A.length : Int) + (M.length : Int) - 1) = false := decide_eq_false (by omega)
      have hr : M.reverse = M := by
        match M, hlt with
        | [], _ => rfl
        | [x], _ => rfl
        | x :: y :: l, h => exact absurd h (by simp)
      have HR : Hid (A ++ M ++ C = l.reverse) := Lib.hid (by rw [hl]; simp [hr])
      have HH := Lib.hid hh
      clear hl hh hr
      go_wp2
      go_end0
      exact ⟨rfl, by rw [← HR.out]; exact HH.out, hsz, hoth, hbl⟩
end Go.Proofs.YtdjkibbnkklajaaGreatDoor

namespace Go.Proofs.YtdjkibbnkklajaaGreatDoor

theorem dec_digits (u : Nat) : Lib.decDigits u = decF u := by
  induction u using Nat.strongRecOn with
  | _ u ih =>
    rw [Lib.decDigits, decF]
    split
    · rfl
    · rw [ih (u / 10) (by omega)]
theorem trim_right (l : List UInt8) : Lib.trimRightB l 48 = trimZ l := rfl

theorem magV_lt : ∀ (ws : List Nat), (∀ x ∈ ws, x < 4294967296) → magV ws < 10 ^ (10 * ws.length)
  | [], _ => by simp [magV]
  | d :: l, h => by
    have h1 := magV_lt l (fun x hx => h x (List.mem_cons_of_mem _ hx))
    have h2 := h d List.mem_cons_self
    have e : 10 ^ (10 * (d :: l).length) = 10000000000 * 10 ^ (10 * l.length) := by
      rw [List.length_cons, Nat.mul_succ, Nat.pow_add, Nat.mul_comm]
    rw [e, magV]
    generalize 10 ^ (10 * l.length) = p at h1 ⊢
    omega
theorem magV_few : ∀ (ws : List Nat) (n : Nat), trimW ws = ws → magV ws < 4294967296 ^ n → ws.length ≤ n
  | [], n, _, _ => Nat.zero_le _
  | d :: l, 0, h, hm => by
    have := trimW_pos h (by simp)
    simp only [Nat.pow_zero] at hm
    omega
  | d :: l, n + 1, h, hm => by
    have hl : trimW l = l := by
      rw [trimW] at h
      split at h
      · cases h
      · injection h
    have := magV_few l n hl (by
      rw [magV, Nat.pow_succ] at hm
      generalize 4294967296 ^ n = p at hm ⊢
      omega)
    rw [List.length_cons]
    omega

/-- The digits of a number, noughts left out, a sign behind them, turned: its text. -/
theorem int_text (n : Int) (k : Nat) (h0 : n ≠ 0) (hk : n.natAbs < 10 ^ k) : (trimZ (lowD k n.natAbs) ++ (if n < 0 then [45] else [])).reverse = intF n := by
  rw [List.reverse_append, low_text _ _ (by omega) hk, intF]
  split <;> simp

theorem lowD_len : ∀ (k n : Nat), (lowD k n).length = k
  | 0, _ => rfl
  | k + 1, n => by rw [lowD, List.length_cons, lowD_len k]

/-- One round: nine digits of the rest. -/
theorem lowD_nine (k n : Nat) : lowD (k + 9) n = lowD k n ++ lowD 9 (n / 10 ^ k % 1000000000) := by
  rw [lowD_add k 9, show (1000000000 : Nat) = 10 ^ 9 from rfl, lowD_mod 9 9 _ (Nat.le_refl _)]

theorem short_div (ws : List Nat) (n k : Nat) (h : magV ws = n / 10 ^ k) : magV (trimW (shortF 1000000000 ws).1) = n / 10 ^ (k + 9) ∧ (shortF 1000000000 ws).2 = n / 10 ^ k % 1000000000 := by
  have h1 := shortF_val 1000000000 ws
  have h2 := shortF_rest 1000000000 (by omega) ws
  rw [magV_trim, ← h]
  have e : n / 10 ^ (k + 9) = magV ws / 1000000000 := by
    rw [h, Nat.pow_add, Nat.div_div_eq_div_mul]
  rw [e]
  omega

theorem trim_len (l : List UInt8) : (trimZ l).length ≤ l.length := by
  rw [trimZ, List.length_reverse]
  have := (List.dropWhile_suffix (l := l.reverse) (p := (· == 48))).length_le
  simpa using this
end Go.Proofs.YtdjkibbnkklajaaGreatDoor

namespace Go.Proofs.YtdjkibbnkklajaaGreatDoor
open Go.RowKit Go

def StrPost (l : List UInt8) (w : World) (r : Ending) (w' : World) : Prop := r = .returned (.string ⟨l.toArray⟩) ∧ Below w.heap.size w w'

theorem wrap_small {n : Nat} (h : n < 1000) : IntKind.i64.wrap (n : Int) = (n : Int) := by
  unfold IntKind.wrap
  simp [IntKind.signed, IntKind.bits]
  omega
theorem wrap_byte {n : Nat} (h : n < 256) : IntKind.u8.wrap (n : Int) = (n : Int) := by
  unfold IntKind.wrap
  simp [IntKind.signed, IntKind.bits]
  omega
theorem text_one (W : World) (b : Nat) (x : Int) (d : Nat) (hd : d < 256) (hx : x = (d : Int)) (h : W.cell? ⟨b, 0, none⟩ = some (.int .u8 x)) : (convert 73 9 (.slice (some ⟨b, 0, none⟩) 1 1)).run Tryz.prog W = .ok (.string ⟨#[UInt8.ofNat d]⟩) W := by
  refine run_convert_bytes_back _ 73 9 5 ⟨b, 0, none⟩ 1 [UInt8.ofNat d] Tryz.underlying73 Tryz.underlying5 Tryz.underlying9 (fun j hj => ?_)
  obtain rfl : j = 0 := by simp at hj; omega
  simp [Addr.add, Nat.mod_eq_of_lt hd, h, hx]
theorem lt_alloc_drew (w : World) (o : Obj) : w.heap.size < (w.alloc o).drew.heap.size := by simp
theorem lt_drew_alloc (w : World) (o : Obj) : w.heap.size < (w.drew.alloc o).heap.size := by simp
theorem cell_alloc_drew (w : World) (v : Value) (t : TypeId) : (w.alloc (.cells #[v] t)).drew.cell? ⟨w.heap.size, 0, none⟩ = some v := by simp
theorem cell_drew_alloc (w : World) (v : Value) (t : TypeId) : (w.drew.alloc (.cells #[v] t)).cell? ⟨w.heap.size, 0, none⟩ = some v := (World.cell?_of_block (a := ⟨w.heap.size, 0, none⟩) (show (w.drew.alloc (.cells #[v] t)).heap[w.heap.size]? = (w.alloc (.cells #[v] t)).heap[w.heap.size]? from rfl)).trans (by simp)
theorem one_text (w : World) (x : Int) (d : Nat) (hd : d < 256) (hx : x = (d : Int)) : (convert 73 9 (.slice (some ⟨w.heap.size, 0, none⟩) 1 1)).run Tryz.prog (w.alloc (.cells #[.int .u8 x] 5)) = .ok (.string ⟨#[UInt8.ofNat d]⟩) (w.alloc (.cells #[.int .u8 x] 5)) :=
  text_one _ _ x d hd hx (by simp)

set_option maxHeartbeats 1000000 in
set_option maxRecDepth 100000 in
theorem digit_one (n : Nat) (w : World) (hn : n < 10) : Calls Tryz.prog 25 #[.int .i64 n] w (StrPost (decF n) w) := by
  have hc := one_text w (48 + (n : Int)) (48 + n) (by omega) (by omega)
  have hd : decF n = [UInt8.ofNat (48 + n)] := by rw [decF, dif_pos hn]
  generalize UInt8.ofNat (48 + n) = c at hc hd
  have HD := Lib.hid hd
  clear hd
  go_enter Tryz.func25, Tryz.ntmps25
  go_wp2
  go_ret
  exact ⟨by rw [HD.out]; rfl, (Below.refl _ _).alloc (Nat.le_refl _) _⟩

set_option maxHeartbeats 1000000 in
set_option maxRecDepth 100000 in
theorem digits_any (n : Nat) (w : World) (hn : n < 100) : Calls Tryz.prog 25 #[.int .i64 n] w (StrPost (decF n) w) := by
  by_cases h : n < 10
  · exact digit_one n w h
  · have hw1 : IntKind.i64.wrap ((n : Int) / 10) = ((n / 10 : Nat) : Int) := by
      rw [show (n : Int) / 10 = ((n / 10 : Nat) : Int) by omega]
      exact wrap_small (by omega)
    have hw2 : IntKind.i64.wrap (48 + (n : Int).tmod 10) = ((48 + n % 10 : Nat) : Int) := by
      rw [show (n : Int).tmod 10 = ((n % 10 : Nat) : Int) by rw [Int.tmod_eq_emod_of_nonneg (by omega)]; omega, show (48 : Int) + ((n % 10 : Nat) : Int) = ((48 + n % 10 : Nat) : Int) by omega]
      exact wrap_small (by omega)
    have hw3 : IntKind.u8.wrap (IntKind.i64.wrap (48 + (n : Int).tmod 10)) = ((48 + n % 10 : Nat) : Int) := by
      rw [hw2]
      exact wrap_byte (by omega)
    have hc := fun W => one_text W (IntKind.u8.wrap (IntKind.i64.wrap (48 + (n : Int).tmod 10))) (48 + n % 10) (by omega) hw3
    have hc2 := fun W b => text_one W b (IntKind.u8.wrap (IntKind.i64.wrap (48 + (n : Int).tmod 10))) (48 + n % 10) (by omega) hw3
    have hc3 := fun (W : World) => hc2 (W.alloc (.cells #[.int .u8 (IntKind.u8.wrap (IntKind.i64.wrap (48 + (n : Int).tmod 10)))] 5)).drew W.heap.size (cell_alloc_drew _ _ _)
    have HC2 := Lib.hid hc2
    have HW := Lib.hid hw1
    have hd : decF n = [UInt8.ofNat (48 + n / 10), UInt8.ofNat (48 + n % 10)] := by
      rw [decF, dif_neg h, decF, dif_pos (by omega)]
      rfl
    have hd1 : decF (n / 10) = [UInt8.ofNat (48 + n / 10)] := by rw [decF, dif_pos (by omega)]
    have HD := Lib.hid hd
    have H1 := Lib.hid (fun W => digit_one (n / 10) W (by omega))
    rw [hd1] at H1
    generalize UInt8.ofNat (48 + n / 10) = c1 at H1 HD
    generalize UInt8.ofNat (48 + n % 10) = c2 at hc hc3 HC2 HD
    clear hd hd1 hc2 hw1 hw2 hw3
    go_enter Tryz.func25, Tryz.ntmps25
    go_wp2_with fail
    go_region_with (first | (go_at_call 25; rw [HW.out]; refine (H1.out _).mono ?_; rintro e w3 ⟨rfl, hb3⟩; first | have hcc := HC2.out w3 w.heap.size ((hb3.cell (p := ⟨w.heap.size, 0, none⟩) (lt_alloc_drew _ _)).trans (cell_alloc_drew _ _ _)) | have hcc := HC2.out w3 w.heap.size ((hb3.cell (p := ⟨w.heap.size, 0, none⟩) (lt_drew_alloc _ _)).trans (cell_drew_alloc _ _ _)) | skip))
    all_goals
      have hs3 := hb3.size
      go_wp2
      go_ret
      refine ⟨by rw [HD.out]; rfl, ?_⟩
      first
        | exact (((Below.refl _ w).drew.trans hb3).alloc hs3 _)
        | exact ((Below.refl _ w).alloc (Nat.le_refl _) _).drew.trans (hb3.mono (by simp))
        | exact (((Below.refl _ w).drew).alloc (Nat.le_refl _) _).trans (hb3.mono (by simp))
end Go.Proofs.YtdjkibbnkklajaaGreatDoor
