/- The walks of the code that the claim reaches, and the plain laws: RdumpW, ParseLaws4, ParseLaws5. No condition of ours. -/
import Derived.Test.YtdjkibbnkklajaaGreatDoorM16
import Derived.Test.YtdjkibbnkklajaaGreatDoorM15
import Derived.Test.YtdjkibbnkklajaaGreatDoorM14
import Derived.Test.YtdjkibbnkklajaaGreatDoorM02
namespace Go.Proofs.YtdjkibbnkklajaaGreatDoor
open Go.RowKit Go

theorem PE.dumpT_def (e : PE) : e.dumpT = headF e.op e.name e.module e.txt e.yes ++ dumpTE e.kids ++ [93] := by cases e; rfl
theorem PE.dump_def (e : PE) : e.dump = headF e.op e.name e.module (intF e.num) e.yes ++ dumpE e.kids ++ [93] := by cases e; rfl
theorem dumpTE_append : ∀ (a b : List PE), dumpTE (a ++ b) = dumpTE a ++ dumpTE b
  | [], b => by simp [dumpTE]
  | e :: a, b => by simp only [List.cons_append, dumpTE, dumpTE_append a b, List.append_assoc]
theorem dumpE_append : ∀ (a b : List PE), dumpE (a ++ b) = dumpE a ++ dumpE b
  | [], b => by simp [dumpE]
  | e :: a, b => by simp only [List.cons_append, dumpE, dumpE_append a b, List.append_assoc]
mutual
def PE.opsOk : PE → Prop
  | .mk op _ _ _ _ _ kids _ => op < 100 ∧ opsOkE kids
def opsOkE : List PE → Prop
  | [] => True
  | e :: l => e.opsOk ∧ opsOkE l
end
theorem opsOkE_mem : ∀ {l : List PE} {e : PE}, opsOkE l → e ∈ l → e.opsOk
  | x :: l, e, h, hm => by
    rw [opsOkE] at h
    rcases List.mem_cons.1 hm with rfl | hm
    · exact h.1
    · exact opsOkE_mem h.2 hm
theorem PE.opsOk.opsOk_def {e : PE} (h : e.opsOk) : e.op < 100 ∧ opsOkE e.kids := by cases e; rw [PE.opsOk] at h; exact h
theorem cat_bytes (a b : List UInt8) : (ByteArray.mk a.toArray) ++ (ByteArray.mk b.toArray) = ByteArray.mk (a ++ b).toArray := by
  apply ByteArray.ext
  simp

theorem empty_no {s : ByteArray} (h : s.data.toList ≠ []) : s.toList.isEmpty = false := by
  rw [isEmpty_size]
  refine decide_eq_false fun q => h ?_
  rw [← size_list] at q
  exact List.length_eq_zero_iff.1 q
theorem empty_yes {s : ByteArray} (h : s.data.toList = []) : s.toList.isEmpty = true := by
  rw [isEmpty_size]
  refine decide_eq_true ?_
  rw [← size_list, h]
  rfl
def nameF (nm md : List UInt8) : List UInt8 := if md ≠ [] then [32] ++ md ++ [46] ++ nm else if nm ≠ [] then [32] ++ nm else []
def numTF (op : Nat) (tx : List UInt8) : List UInt8 := if op = 1 then [32] ++ tx else []
def yesF (op : Nat) (ys : Bool) : List UInt8 := if op = 2 then (if ys = true then [32, 116, 114, 117, 101] else [32, 102, 97, 108, 115, 101]) else []
theorem nameF_md {nm md : List UInt8} (h : md ≠ []) : nameF nm md = [32] ++ md ++ [46] ++ nm := by rw [nameF, if_pos h]
theorem nameF_nm {nm md : List UInt8} (h : md = []) (hn : nm ≠ []) : nameF nm md = [32] ++ nm := by rw [nameF, if_neg (by simp [h]), if_pos hn]
theorem nameF_no {nm md : List UInt8} (h : md = []) (hn : nm = []) : nameF nm md = [] := by rw [nameF, if_neg (by simp [h]), if_neg (by simp [hn])]
theorem head_parts (op : Nat) (nm md tx : List UInt8) (ys : Bool) : headF op nm md tx ys = [91] ++ decF op ++ nameF nm md ++ numTF op tx ++ yesF op ys := rfl
def boxR (op : Nat) (NM MD TX : ByteArray) (ys : Bool) (kv : Value) (a_ : Nat) : Array Value := #[.int .i64 op, .string NM, .string MD, .string TX, .bool ys, kv, .int .i64 a_]
theorem boxR_cells {w : World} {b op : Nat} {NM MD TX : ByteArray} {ys : Bool} {kv : Value} {a_ : Nat} (h : w.heap[b]? = some (.cells (boxR op NM MD TX ys kv a_) 42 (0, 0))) :
    w.cell? ⟨b, 0, none⟩ = some (.int .i64 op) ∧ w.cell? ⟨b, 1, none⟩ = some (.string NM) ∧ w.cell? ⟨b, 2, none⟩ = some (.string MD) ∧ w.cell? ⟨b, 3, none⟩ = some (.string TX) ∧ w.cell? ⟨b, 4, none⟩ = some (.bool ys) ∧ w.cell? ⟨b, 5, none⟩ = some kv := by
  refine ⟨?_, ?_, ?_, ?_, ?_, ?_⟩ <;> (rw [Lib.cell_of_heap h]; rfl)

/-- What Dump does at an expression. -/
def RdDoes (e : PE) : Prop := ∀ (B : Nat) (m : Value) (ae : Option Addr) (ce : Nat) (w : World), EAt XR (fun b => b < B) w m (.slice ae e.kids.length ce) e → B ≤ w.heap.size → e.size ≤ 1099511627776 → e.dumpT.length ≤ 1099511627776 →
    Calls Tryz.prog 11 #[.agg #[.int .i64 e.op, .string ⟨e.name.toArray⟩, .string ⟨e.module.toArray⟩, .string ⟨e.txt.toArray⟩, .bool e.yes, .slice ae e.kids.length ce, .int .i64 e.at_]] w (StrPost e.dumpT w)
def RdAll (ks : List PE) : Prop := ∀ x ∈ ks, RdDoes x

set_option maxHeartbeats 1000000 in
set_option maxRecDepth 100000 in
theorem rdump_step (e : PE) (hop : e.op < 100) (IH : RdAll e.kids) : RdDoes e := by
    intro B m ae ce w h hB hz hdl
    have hdef := e.size_def
    have hdd := e.dumpT_def
    obtain ⟨hnum, ae', ce', hv, hcap, hf⟩ := h.form
    simp only [Value.slice.injEq] at hv
    obtain ⟨rfl, -, rfl⟩ := hv
    have hfew := sizeE_few e.kids
    have hkl : e.kids.length ≤ 1099511627776 := by omega
    have hzk : sizeE e.kids + 1 ≤ 1099511627776 := by omega
    have HDG := Lib.hid (fun W => digits_any e.op W hop)
    rw [head_parts] at hdd
    clear hnum hf hdef hz hop
    have HE := Lib.hid h
    clear h
    generalize decF e.op = dg at HDG hdd
    generalize e.op = op at *
    generalize e.name = nm at *
    generalize e.module = md at *
    generalize e.txt = tx at *
    generalize e.yes = ys at *
    generalize e.at_ = a_ at *
    generalize e.dumpT = out at *
    generalize hkk : e.kids = ks at *
    obtain ⟨NM, rfl, eN⟩ := bytes_of nm
    obtain ⟨MD, rfl, eM⟩ := bytes_of md
    obtain ⟨TX, rfl, eT⟩ := bytes_of tx
    obtain ⟨DG, rfl, eD⟩ := bytes_of dg
    have HDG : Hid (∀ W, Calls Tryz.prog 25 #[.int .i64 op] W fun r w' => r = .returned (.string DG) ∧ Below W.heap.size W w') := Lib.hid fun W => (HDG.out W).mono fun r w' h => ⟨by rw [h.1, eD], h.2⟩
    rw [eN, eM, eT]
    have hln := congrArg List.length hdd
    simp only [List.length_append, size_list, List.length_cons, List.length_nil] at hln
    have e0 := heap_alloc_new w (.cells (boxR op NM MD TX ys (.slice ae ks.length ce) a_) 42)
    have hbb := below_new w (.cells (boxR op NM MD TX ys (.slice ae ks.length ce) a_) 42)
    have HDD := Lib.hid hdd
    have hbd : DG.size + (nameF NM.data.toList MD.data.toList).length + (numTF op TX.data.toList).length + (yesF op ys).length + (dumpTE ks).length + 2 ≤ 1099511627776 := by omega
    clear hdd hln hdl eN eM eT eD
    go_enter Tryz.func11, Tryz.ntmps11
    have hq : ∀ w3, Below (w.alloc (.cells (boxR op NM MD TX ys (.slice ae ks.length ce) a_) 42)).heap.size (w.alloc (.cells (boxR op NM MD TX ys (.slice ae ks.length ce) a_) 42)) w3 → w3.heap[w.heap.size]? = some (.cells (boxR op NM MD TX ys (.slice ae ks.length ce) a_) 42 (0, 0)) ∧ Below w.heap.size w w3 := fun w3 hb => ⟨(hb.block w.heap.size (by simp)).trans e0, hbb.trans (hb.mono (by simp))⟩
    have HQ := Lib.hid hq
    clear hq e0 hbb
    go_upto_region 2 with (go_at_call 25; refine (HDG.out _).mono ?_; rintro e w3 ⟨rfl, hb3⟩)
    obtain ⟨hbx, hbl⟩ := HQ.out w3 hb3
    clear hb3 HQ HDG
    obtain ⟨y0, y1, y2, y3, y4, y5⟩ := boxR_cells hbx
    have hS0 : ((ByteArray.mk #[91]) ++ DG).data.toList = [91] ++ DG.data.toList := by simp
    have hS0z : ((ByteArray.mk #[91]) ++ DG).size = 1 + DG.size := by rw [← size_list, hS0]; simp [size_list]; omega
    generalize (ByteArray.mk #[91]) ++ DG = S0 at hS0 hS0z ⊢
    go_upto_if 11 with fail
    generalize ht : (!MD.toList.isEmpty) = t
    go_cut [3] (fun s wc => ∃ S : ByteArray, s = .string S ∧ S.data.toList = [91] ++ DG.data.toList ++ nameF NM.data.toList MD.data.toList ∧ wc = w3)
    case first =>
      cases t with
      | false =>
        have hm : MD.data.toList = [] := Classical.byContradiction fun q => by rw [empty_no q] at ht; cases ht
        clear ht
        by_cases hn : NM.data.toList = []
        · have hne := empty_yes hn
          have HN := Lib.hid (nameF_no hm hn)
          clear hm hn
          go_wp2
          go_meet
          exact ⟨S0, rfl, by rw [hS0, HN.out, List.append_nil], rfl⟩
        · have hne := empty_no hn
          have HN := Lib.hid (nameF_nm hm hn)
          clear hm hn
          rw [HN.out] at hbd
          simp only [List.length_append, size_list, List.length_cons, List.length_nil] at hbd
          go_wp2
          go_meet
          exact ⟨_, rfl, by rw [append_list, append_list, hS0, HN.out], rfl⟩
      | true =>
        have hm : MD.data.toList ≠ [] := fun q => by rw [empty_yes q] at ht; cases ht
        have HN := Lib.hid (nameF_md (nm := NM.data.toList) hm)
        rw [HN.out] at hbd
        simp only [List.length_append, size_list, List.length_cons, List.length_nil] at hbd
        clear hm ht
        go_wp2
        go_meet
        exact ⟨_, rfl, by rw [append_list, append_list, append_list, append_list, hS0, HN.out], rfl⟩
    case rest =>
      obtain ⟨S1, rfl, hS1, rfl⟩ := hcut
      have hz1 : S1.size = 1 + DG.size + (nameF NM.data.toList MD.data.toList).length := by rw [← size_list, hS1]; simp [size_list]; omega
      obtain ⟨wo, rfl⟩ : ∃ wo : World, wo = wc := ⟨_, rfl⟩
      clear hS0 hS0z ht S0
      go_upto_if 31 with fail
      generalize ht1 : ((op : Int) == 1) = t1
      go_cut [3] (fun s wc => ∃ S : ByteArray, s = .string S ∧ S.data.toList = [91] ++ DG.data.toList ++ nameF NM.data.toList MD.data.toList ++ numTF op TX.data.toList ∧ wc = wo)
      case first =>
        cases t1 with
        | true =>
          have HN : Hid (numTF op TX.data.toList = [32] ++ TX.data.toList) := Lib.hid (by rw [numTF, if_pos (by have := eq_of_beq ht1; omega)])
          rw [HN.out] at hbd
          simp only [List.length_append, size_list, List.length_cons, List.length_nil] at hbd
          clear ht1
          go_wp2
          go_meet
          exact ⟨_, rfl, by rw [append_list, append_list, hS1, HN.out], rfl⟩
        | false =>
          have HN : Hid (numTF op TX.data.toList = []) := Lib.hid (by rw [numTF, if_neg (fun q => by rw [q] at ht1; cases ht1)])
          clear ht1
          go_wp2
          go_meet
          exact ⟨S1, rfl, by rw [hS1, HN.out, List.append_nil], rfl⟩
      case rest =>
        obtain ⟨S2, rfl, hS2, rfl⟩ := hcut
        have hz2 : S2.size = 1 + DG.size + (nameF NM.data.toList MD.data.toList).length + (numTF op TX.data.toList).length := by rw [← size_list, hS2]; simp [size_list]; omega
        obtain ⟨wo, rfl⟩ : ∃ wo : World, wo = wc := ⟨_, rfl⟩
        clear hS1 hz1 ht1 S1
        have hyl : (yesF op ys).length ≤ 6 := by unfold yesF; split <;> (try split) <;> simp
        go_upto_region 8 with fail
        go_cut [43] (fun t wc => t = .bool (decide (op = 2) && ys) ∧ wc = wo)
        case first =>
          by_cases h2 : op = 2
          · subst h2
            go_wp2
            go_meet
            exact ⟨by simp, rfl⟩
          · have h2I : ((op : Int) == 2) = false := by simp; omega
            have HH2 := Lib.hid h2
            clear h2
            go_wp2
            go_meet
            exact ⟨by simp [HH2.out], rfl⟩
        case rest =>
        obtain ⟨rfl, rfl⟩ := hcut
        obtain ⟨wo, rfl⟩ : ∃ wo : World, wo = wc := ⟨_, rfl⟩
        generalize ht2 : (decide (op = 2) && ys) = t2
        go_upto_if 43 with fail
        go_cut [3] (fun s wc => ∃ S : ByteArray, s = .string S ∧ S.data.toList = S2.data.toList ++ (if t2 = true then [32, 116, 114, 117, 101] else []) ∧ wc = wo)
        case first =>
          cases t2 with
          | true =>
            clear ht2
            go_wp2
            go_meet
            exact ⟨_, rfl, by rw [append_list]; simp, rfl⟩
          | false =>
            clear ht2
            go_wp2
            go_meet
            exact ⟨S2, rfl, by simp, rfl⟩
        case rest =>
          obtain ⟨S3, rfl, hS3, rfl⟩ := hcut
          have hz3 : S3.size ≤ S2.size + 5 := by
            rw [← size_list, hS3, List.length_append, size_list]
            split <;> simp
          obtain ⟨wo, rfl⟩ : ∃ wo : World, wo = wc := ⟨_, rfl⟩
          go_upto_region 10 with fail
          go_cut [53] (fun t wc => t = .bool (decide (op = 2) && !ys) ∧ wc = wo)
          case first =>
            by_cases h2 : op = 2
            · subst h2
              clear ht2
              go_wp2
              go_meet
              exact ⟨by simp, rfl⟩
            · have h2I : ((op : Int) == 2) = false := by simp; omega
              have HH2 := Lib.hid h2
              clear h2 ht2
              go_wp2
              go_meet
              exact ⟨by simp [HH2.out], rfl⟩
          case rest =>
          obtain ⟨rfl, rfl⟩ := hcut
          obtain ⟨wo, rfl⟩ : ∃ wo : World, wo = wc := ⟨_, rfl⟩
          generalize ht3 : (decide (op = 2) && !ys) = t3
          have HY : Hid ((if t2 = true then [32, 116, 114, 117, 101] else []) ++ (if t3 = true then [32, 102, 97, 108, 115, 101] else []) = yesF op ys) := Lib.hid (by
            rw [← ht2, ← ht3, yesF]
            by_cases h3 : op = 2
            · cases ys <;> simp [h3]
            · simp [h3])
          go_upto_if 53 with fail
          go_cut [3] (fun s wc => ∃ S : ByteArray, s = .string S ∧ S.data.toList = S2.data.toList ++ yesF op ys ∧ wc = wo)
          case first =>
            cases t3 with
            | true =>
              clear ht2 ht3
              go_wp2
              go_meet
              exact ⟨_, rfl, by rw [append_list, hS3, ← HY.out]; simp, rfl⟩
            | false =>
              clear ht2 ht3
              go_wp2
              go_meet
              exact ⟨S3, rfl, by rw [hS3, ← HY.out]; simp, rfl⟩
          case rest =>
            obtain ⟨S4, rfl, hS4, rfl⟩ := hcut
            have hh : S4.data.toList = [91] ++ DG.data.toList ++ nameF NM.data.toList MD.data.toList ++ numTF op TX.data.toList ++ yesF op ys := by rw [hS4, hS2]
            rw [← hh] at HDD
            have hz4 : S4.size = 1 + DG.size + (nameF NM.data.toList MD.data.toList).length + (numTF op TX.data.toList).length + (yesF op ys).length := by rw [← size_list, hh]; simp [size_list]; omega
            have hbd4 : S4.size + (dumpTE ks).length + 1 ≤ 1099511627776 := by omega
            obtain ⟨wo, rfl⟩ : ∃ wo : World, wo = wc := ⟨_, rfl⟩
            clear hS2 hz2 hS3 hz3 hS4 hz4 hh hbd hyl ht2 ht3 HY S2 S3 y0 y1 y2 y3 y4
            go_wp2
            go_loopw [3, 4] (fun v q wr => ∃ (k : Nat) (S : ByteArray), k ≤ ks.length ∧ q = .int .i64 k ∧ v = .string S ∧ S.data.toList = S4.data.toList ++ dumpTE (ks.take k) ∧ wr.heap[w.heap.size]? = some (.cells (boxR op NM MD TX ys (.slice ae ks.length ce) a_) 42 (0, 0)) ∧ Below w.heap.size w wr) (fun _ q _ => ks.length - (intOf q).toNat)
            case atStart => exact ⟨0, S4, Nat.zero_le _, rfl, rfl, by simp [dumpTE], hbx, hbl⟩
            case round =>
              obtain ⟨k, S, hk, rfl, rfl, hS, hbx, hbl⟩ := hrel
              have hw := hbl.size
              obtain ⟨-, -, -, -, -, c5⟩ := boxR_cells hbx
              have hsl : S.size = S4.size + (dumpTE (ks.take k)).length := by rw [← size_list, hS, List.length_append, size_list]
              have hspl := dumpTE_append (ks.take k) (ks.drop k)
              rw [List.take_append_drop] at hspl
              by_cases hlt : k < ks.length
              · obtain ⟨_, ae', ce', hv, _, hf⟩ := HE.out.form
                simp only [Value.slice.injEq] at hv
                obtain ⟨rfl, -, rfl⟩ := hv
                simp only [hkk] at hf
                obtain ⟨b, off, rfl, hbB, hbw, hkid⟩ := hf (by omega)
                obtain ⟨m1, kv, hE, hc⟩ := hkid k hlt
                have hmem : ks[k] ∈ ks := List.getElem_mem hlt
                have hle := sizeE_mem ks _ hmem
                obtain ⟨_, ae1, ce1, rfl, _, _⟩ := hE.form
                have IHx := IH _ hmem B m1 ae1 ce1
                have hstep : dumpTE (ks.take (k + 1)) = dumpTE (ks.take k) ++ ([32] ++ ks[k].dumpT) := by rw [take_succ_at hlt, dumpTE_append]; simp [dumpTE]
                have hlen : (dumpTE (ks.take k)).length + 1 + ks[k].dumpT.length ≤ (dumpTE ks).length := by
                  rw [hspl, List.drop_eq_getElem_cons hlt, dumpTE]
                  simp
                  omega
                generalize ks[k] = x at hE hc hle IHx hstep hlen
                have y0 := (hbl.cell (p := ⟨b, off + k * 7, none⟩) hbw).trans (hc 0 _ rfl)
                have y1 := (hbl.cell (p := ⟨b, off + k * 7 + 1, none⟩) hbw).trans (hc 1 _ rfl)
                have y2 := (hbl.cell (p := ⟨b, off + k * 7 + 2, none⟩) hbw).trans (hc 2 _ rfl)
                have y3 := (hbl.cell (p := ⟨b, off + k * 7 + 3, none⟩) hbw).trans (hc 3 _ rfl)
                have y4 := (hbl.cell (p := ⟨b, off + k * 7 + 4, none⟩) hbw).trans (hc 4 _ rfl)
                have y5 := (hbl.cell (p := ⟨b, off + k * 7 + 5, none⟩) hbw).trans (hc 5 _ rfl)
                have y6 := (hbl.cell (p := ⟨b, off + k * 7 + 6, none⟩) hbw).trans (hc 6 _ rfl)
                simp only [strV] at y1 y2 y3
                have hI := IHx wr (hE.frame (Alk.ofB hbl (fun b hb => by omega))) (by omega) (by omega) (by omega)
                obtain ⟨XD, hXD, eX⟩ := bytes_of x.dumpT
                rw [← hXD] at hstep hlen
                have HI : Hid (Calls Tryz.prog 11 #[.agg #[.int .i64 x.op, .string ⟨x.name.toArray⟩, .string ⟨x.module.toArray⟩, .string ⟨x.txt.toArray⟩, .bool x.yes, .slice ae1 x.kids.length ce1, .int .i64 x.at_]] wr fun r w' => r = .returned (.string XD) ∧ Below wr.heap.size wr w') := Lib.hid (hI.mono fun r w' h => ⟨by rw [h.1, eX], h.2⟩)
                rw [size_list] at hlen
                have hxs : S.size + XD.size + 2 ≤ 1099511627776 := by omega
                have HST := Lib.hid hstep
                have HSS := Lib.hid hS
                have HBX := Lib.hid hbx
                have hkI : (k : Int) < (ks.length : Int) := by omega
                clear hkid hc hE IHx hI hstep hS hbx hspl eX hXD IH hf HDD HE hmem
                go_wp2_with (go_at_call 11; refine HI.out.mono ?_; rintro r w2 ⟨rfl, hb2⟩)
                have hlx := (Array.getElem?_eq_some_iff.1 HBX.out).1
                refine ⟨⟨k + 1, _, by omega, by go_num, rfl, ?_, (hb2.block w.heap.size hlx).trans HBX.out, hbl.trans (hb2.mono hw)⟩, by simp [intOf]; omega⟩
                rw [append_list, append_list, HSS.out, HST.out, List.append_assoc]
              · obtain rfl : k = ks.length := by omega
                have hkI : decide ((ks.length : Int) < (ks.length : Int)) = false := decide_eq_false (by omega)
                rw [List.take_length] at hS hsl
                have HSS := Lib.hid hS
                clear hS hspl
                go_wp2
                go_ret
                refine ⟨congrArg (fun z => Ending.returned (Value.string z)) (bytes_ext ?_), hbl⟩
                rw [HDD.out, append_list, HSS.out]
theorem rdump_any : ∀ (n : Nat) (e : PE), SizeOf.sizeOf e < n → e.opsOk → RdDoes e
  | 0, e, hs, _ => absurd hs (by omega)
  | n + 1, e, hs, hop => rdump_step e hop.opsOk_def.1 fun x hx => rdump_any n x (by have := kids_sizeOf e x hx; omega) (opsOkE_mem hop.opsOk_def.2 hx)
end Go.Proofs.YtdjkibbnkklajaaGreatDoor

namespace Go.Proofs.YtdjkibbnkklajaaGreatDoor

def Slk (a b : PSt) : Prop := b.nodes.length + 2 * a.used ≤ a.nodes.length + 2 * b.used
theorem Slk.refl (a : PSt) : Slk a a := Nat.le_refl _
theorem Slk.trans {a b c : PSt} (h : Slk a b) (k : Slk b c) : Slk a c := by unfold Slk at *; omega

theorem failM_slk (toks : List Tok) (e : Nat) (st : PSt) : Slk st (failM toks e st) := by
  unfold failM
  split <;> exact Nat.le_refl _
theorem deepM_slk (toks : List Tok) (d n : Nat) (st : PSt) : Slk st (deepM toks d n st) := by
  unfold deepM
  split
  · exact failM_slk _ _ _
  · exact Slk.refl _
theorem leafM_two (toks : List Tok) (st : PSt) : (leafM toks st = (-1, st)) ∨ ((leafM toks st).2.nodes.length = st.nodes.length + 1 ∧ (leafM toks st).2.used = st.used + 1) := by
  unfold leafM
  split
  · exact .inl rfl
  · exact .inr ⟨by simp, rfl⟩
theorem leafM_slk (toks : List Tok) (st : PSt) : Slk st (leafM toks st).2 := by
  rcases leafM_two toks st with h | ⟨h1, h2⟩
  · rw [h]; exact Slk.refl _
  · unfold Slk; omega
theorem mustM_slk (toks : List Tok) (l : List (List UInt8)) (st : PSt) : Slk st (mustM toks l st).2 := by
  unfold mustM
  split
  · exact leafM_slk _ _
  · exact failM_slk _ _ _
theorem kindM_slk (toks : List Tok) (k : Nat) (st : PSt) : Slk st (kindM toks k st).2 := by
  unfold kindM
  split
  · exact leafM_slk _ _
  · exact failM_slk _ _ _

theorem nodeM_two (k : Int) (l : List Int) (st : PSt) : (nodeM k l st).2.used = st.used ∧ (nodeM k l st).2.nodes.length ≤ st.nodes.length + 1 ∧ ((-1 : Int) ∈ l → (nodeM k l st).2.nodes.length = st.nodes.length) := by
  unfold nodeM rawM
  split
  · split
    · exact ⟨rfl, by simp, fun _ => rfl⟩
    · rename_i hb
      refine ⟨rfl, by simp, fun h => ?_⟩
      exact (hb (List.any_eq_true.2 ⟨-1, h, by simp⟩)).elim
  · exact ⟨rfl, by simp, fun _ => rfl⟩

/-- A node over a token that was taken. -/
theorem node_slk (toks : List Tok) (k : Int) (l : List Int) (st s3 : PSt) (h : Slk (leafM toks st).2 s3) (hm : (leafM toks st).1 ∈ l) : Slk st (nodeM k l s3).2 := by
  obtain ⟨h1, h2, h3⟩ := nodeM_two k l s3
  rcases leafM_two toks st with hl | ⟨l1, l2⟩
  · rw [hl] at h hm
    have := h3 hm
    unfold Slk at *
    simp only at h
    omega
  · unfold Slk at *
    omega
theorem qualM_slk (toks : List Tok) (a : Int × PSt) : Slk a.2 (qualM toks a).2 := by
  unfold qualM
  split
  · exact (leafM_slk _ _).trans (kindM_slk _ _ _)
  · exact Slk.refl _

theorem listLoop_slk (toks : List Tok) (one : PSt → Option (Int × PSt)) (h1 : ∀ s k, one s = some k → Slk s k.2) : ∀ (r : Nat) (kids : List Int) (st : PSt) (l : List Int × PSt), listLoop toks one r kids st = some l → Slk st l.2
  | 0, kids, st, l, h => by
    rw [listLoop] at h
    injection h with h
    subst h
    show Slk st (if st.fE = 0 then failM toks 15 st else st)
    split
    · exact failM_slk _ _ _
    · exact Slk.refl _
  | r + 1, kids, st, l, h => by
    rw [listLoop] at h
    split at h
    · injection h with h; subst h; exact Slk.refl _
    · obtain ⟨k, hk, h⟩ := Option.bind_eq_some_iff.1 h
      have := h1 _ _ hk
      split at h
      · exact (this.trans (leafM_slk _ _)).trans (listLoop_slk toks one h1 r _ _ _ h)
      · injection h with h; subst h; exact this

theorem listM_slk (toks : List Tok) (one : PSt → Option (Int × PSt)) (h1 : ∀ s k, one s = some k → Slk s k.2) (st : PSt) (l : List Int × PSt) (h : listM toks one st = some l) : Slk st l.2 := by
  unfold listM at h
  split at h
  · injection h with h; subst h; exact Slk.refl _
  · exact listLoop_slk toks one h1 _ _ _ _ h

theorem run_slk (toks : List Tok) (depth : Nat) : ∀ (g : Nat) (t : Task) (st : PSt) (r : Int × PSt), run toks depth g t st = some r → Slk st r.2
  | 0, _, _, _, h => by rw [run] at h; cases h
  | g + 1, .expr nest, st, r, h => by
    have ih := run_slk toks depth g
    rw [run] at h
    have hd := deepM_slk toks depth nest st
    generalize deepM toks depth nest st = s at h hd
    split at h
    · injection h with h; subst h; exact hd
    split at h
    · exact hd.trans (ih _ _ _ h)
    split at h
    · obtain ⟨d, h1, h⟩ := Option.bind_eq_some_iff.1 h
      obtain ⟨f, h2, h⟩ := Option.bind_eq_some_iff.1 h
      injection h with h; subst h
      exact hd.trans (node_slk toks _ _ _ _ ((((kindM_slk _ _ _).trans (mustM_slk _ _ _)).trans (ih _ _ _ h1)).trans ((mustM_slk _ _ _).trans (ih _ _ _ h2))) (by simp))
    split at h
    · obtain ⟨b, h1, h⟩ := Option.bind_eq_some_iff.1 h
      obtain ⟨d, h2, h⟩ := Option.bind_eq_some_iff.1 h
      obtain ⟨f, h3, h⟩ := Option.bind_eq_some_iff.1 h
      injection h with h; subst h
      exact hd.trans (node_slk toks _ _ _ _ ((((ih _ _ _ h1).trans (mustM_slk _ _ _)).trans (ih _ _ _ h2)).trans ((mustM_slk _ _ _).trans (ih _ _ _ h3))) (by simp))
    split at h
    · obtain ⟨b, h1, h⟩ := Option.bind_eq_some_iff.1 h
      obtain ⟨d, h2, h⟩ := Option.bind_eq_some_iff.1 h
      injection h with h; subst h
      exact hd.trans (node_slk toks _ _ _ _ (((ih _ _ _ h1).trans (mustM_slk _ _ _)).trans (ih _ _ _ h2)) (by simp))
    · exact hd.trans (ih _ _ _ h)
  | g + 1, .formula nest, st, r, h => by
    have ih := run_slk toks depth g
    rw [run] at h
    obtain ⟨a, h1, h⟩ := Option.bind_eq_some_iff.1 h
    have ha := ih _ _ _ h1
    split at h
    · have hd := (ha.trans (leafM_slk toks a.2)).trans (deepM_slk toks depth (nest + 1) _)
      split at h
      · injection h with h; subst h; exact hd
      · obtain ⟨b, h2, h⟩ := Option.bind_eq_some_iff.1 h
        injection h with h; subst h
        exact ha.trans (node_slk toks _ _ _ _ ((deepM_slk _ _ _ _).trans (ih _ _ _ h2)) (by simp))
    · injection h with h; subst h; exact ha
  | g + 1, .part l nest, st, r, h => by
    have ih := run_slk toks depth g
    rw [run] at h
    split at h
    · exact ih _ _ _ h
    · split at h
      · exact ih _ _ _ h
      · exact ih _ _ _ h
  | g + 1, .row l nest, st, r, h => by
    have ih := run_slk toks depth g
    rw [run] at h
    obtain ⟨a, h1, h⟩ := Option.bind_eq_some_iff.1 h
    exact (ih _ _ _ h1).trans (ih _ _ _ h)
  | g + 1, .loop l nest a, st, r, h => by
    have ih := run_slk toks depth g
    rw [run] at h
    split at h
    · obtain ⟨b, h1, h⟩ := Option.bind_eq_some_iff.1 h
      have hb := node_slk toks 10 [a, (leafM toks st).1, b.1] st _ (ih _ _ _ h1) (by simp)
      split at h
      · injection h with h; subst h; exact hb
      · exact hb.trans (ih _ _ _ h)
    · injection h with h; subst h; exact Slk.refl _
  | g + 1, .neg nest, st, r, h => by
    have ih := run_slk toks depth g
    rw [run] at h
    split at h
    · have hd := (leafM_slk toks st).trans (deepM_slk toks depth (nest + 1) _)
      split at h
      · injection h with h; subst h; exact hd
      · obtain ⟨b, h2, h⟩ := Option.bind_eq_some_iff.1 h
        injection h with h; subst h
        exact node_slk toks _ _ _ _ ((deepM_slk _ _ _ _).trans (ih _ _ _ h2)) (by simp)
    · exact ih _ _ _ h
  | g + 1, .factor nest, st, r, h => by
    have ih := run_slk toks depth g
    rw [run] at h
    split at h
    · have hd := (leafM_slk toks st).trans (deepM_slk toks depth (nest + 1) _)
      split at h
      · injection h with h; subst h; exact hd
      · obtain ⟨b, h2, h⟩ := Option.bind_eq_some_iff.1 h
        injection h with h; subst h
        exact node_slk toks _ _ _ _ ((deepM_slk _ _ _ _).trans (ih _ _ _ h2)) (by simp)
    · exact ih _ _ _ h
  | g + 1, .atom nest, st, r, h => by
    have ih := run_slk toks depth g
    rw [run] at h
    split at h
    · injection h with h; subst h; exact Slk.refl _
    split at h
    · injection h with h; subst h; exact node_slk toks _ _ _ _ (Slk.refl _) (by simp)
    split at h
    · injection h with h; subst h; exact node_slk toks _ _ _ _ (Slk.refl _) (by simp)
    split at h
    · injection h with h; subst h; exact node_slk toks _ _ _ _ (Slk.refl _) (by simp)
    split at h
    · obtain ⟨b, h1, h⟩ := Option.bind_eq_some_iff.1 h
      injection h with h; subst h
      exact node_slk toks _ _ _ _ ((ih _ _ _ h1).trans (mustM_slk _ _ _)) (by simp)
    split at h
    · exact ih _ _ _ h
    · injection h with h; subst h; exact failM_slk _ _ _
  | g + 1, .name nest, st, r, h => by
    have ih := run_slk toks depth g
    rw [run] at h
    split at h
    · injection h with h; subst h; exact node_slk toks _ _ _ _ (Slk.refl _) (by simp)
    · obtain ⟨l, h1, h⟩ := Option.bind_eq_some_iff.1 h
      injection h with h; subst h
      exact node_slk toks _ _ _ _ (((qualM_slk _ _).trans (mustM_slk _ _ _)).trans ((listM_slk toks _ (fun s k hk => ih _ _ _ hk) _ _ h1).trans (mustM_slk _ _ _))) (by unfold qualM; split <;> simp)


end Go.Proofs.YtdjkibbnkklajaaGreatDoor

namespace Go.Proofs.YtdjkibbnkklajaaGreatDoor

/-- No more tokens are used than there are, if it was so. -/
def Wth (toks : List Tok) (a b : PSt) : Prop := a.used ≤ toks.length → b.used ≤ toks.length
theorem Wth.refl {toks : List Tok} (a : PSt) : Wth toks a a := fun h => h
theorem Wth.trans {toks : List Tok} {a b c : PSt} (h : Wth toks a b) (k : Wth toks b c) : Wth toks a c := fun q => k (h q)

theorem failM_wth (toks : List Tok) (e : Nat) (st : PSt) : Wth toks st (failM toks e st) := by
  unfold failM
  split
  · exact fun h => h
  · exact Wth.refl _
theorem leafM_wth (toks : List Tok) (st : PSt) : Wth toks st (leafM toks st).2 := by
  intro h
  unfold leafM
  split
  · exact h
  · simp only; omega
theorem nodeM_wth {toks : List Tok} (k : Int) (l : List Int) (st : PSt) : Wth toks st (nodeM k l st).2 := by
  unfold nodeM rawM
  split
  · split
    · exact Wth.refl _
    · exact fun h => h
  · exact Wth.refl _
theorem mustM_wth (toks : List Tok) (l : List (List UInt8)) (st : PSt) : Wth toks st (mustM toks l st).2 := by
  unfold mustM
  split
  · exact leafM_wth _ _
  · exact failM_wth _ _ _
theorem kindM_wth (toks : List Tok) (k : Nat) (st : PSt) : Wth toks st (kindM toks k st).2 := by
  unfold kindM
  split
  · exact leafM_wth _ _
  · exact failM_wth _ _ _
theorem deepM_wth (toks : List Tok) (d n : Nat) (st : PSt) : Wth toks st (deepM toks d n st) := by
  unfold deepM
  split
  · exact failM_wth _ _ _
  · exact Wth.refl _
theorem qualM_wth (toks : List Tok) (a : Int × PSt) : Wth toks a.2 (qualM toks a).2 := by
  unfold qualM
  split
  · exact (leafM_wth _ _).trans (kindM_wth _ _ _)
  · exact Wth.refl _

theorem listLoop_wth (toks : List Tok) (one : PSt → Option (Int × PSt)) (h1 : ∀ s k, one s = some k → Wth toks s k.2) : ∀ (r : Nat) (kids : List Int) (st : PSt) (l : List Int × PSt), listLoop toks one r kids st = some l → Wth toks st l.2
  | 0, kids, st, l, h => by
    rw [listLoop] at h
    injection h with h
    subst h
    show Wth toks st (if st.fE = 0 then failM toks 15 st else st)
    split
    · exact failM_wth _ _ _
    · exact Wth.refl _
  | r + 1, kids, st, l, h => by
    rw [listLoop] at h
    split at h
    · injection h with h; subst h; exact Wth.refl _
    · obtain ⟨k, hk, h⟩ := Option.bind_eq_some_iff.1 h
      have := h1 _ _ hk
      split at h
      · exact (this.trans (leafM_wth _ _)).trans (listLoop_wth toks one h1 r _ _ _ h)
      · injection h with h; subst h; exact this

theorem listM_wth (toks : List Tok) (one : PSt → Option (Int × PSt)) (h1 : ∀ s k, one s = some k → Wth toks s k.2) (st : PSt) (l : List Int × PSt) (h : listM toks one st = some l) : Wth toks st l.2 := by
  unfold listM at h
  split at h
  · injection h with h; subst h; exact Wth.refl _
  · exact listLoop_wth toks one h1 _ _ _ _ h

theorem run_wth (toks : List Tok) (depth : Nat) : ∀ (g : Nat) (t : Task) (st : PSt) (r : Int × PSt), run toks depth g t st = some r → Wth toks st r.2
  | 0, _, _, _, h => by rw [run] at h; cases h
  | g + 1, .expr nest, st, r, h => by
    have ih := run_wth toks depth g
    rw [run] at h
    have hd := deepM_wth toks depth nest st
    generalize deepM toks depth nest st = s at h hd
    split at h
    · injection h with h; subst h; exact hd
    split at h
    · exact hd.trans (ih _ _ _ h)
    split at h
    · obtain ⟨d, h1, h⟩ := Option.bind_eq_some_iff.1 h
      obtain ⟨f, h2, h⟩ := Option.bind_eq_some_iff.1 h
      injection h with h; subst h
      exact (((((hd.trans (leafM_wth _ _)).trans (kindM_wth _ _ _)).trans (mustM_wth _ _ _)).trans (ih _ _ _ h1)).trans (mustM_wth _ _ _)).trans ((ih _ _ _ h2).trans (nodeM_wth _ _ _))
    split at h
    · obtain ⟨b, h1, h⟩ := Option.bind_eq_some_iff.1 h
      obtain ⟨d, h2, h⟩ := Option.bind_eq_some_iff.1 h
      obtain ⟨f, h3, h⟩ := Option.bind_eq_some_iff.1 h
      injection h with h; subst h
      exact (((((hd.trans (leafM_wth _ _)).trans (ih _ _ _ h1)).trans (mustM_wth _ _ _)).trans (ih _ _ _ h2)).trans (mustM_wth _ _ _)).trans ((ih _ _ _ h3).trans (nodeM_wth _ _ _))
    split at h
    · obtain ⟨b, h1, h⟩ := Option.bind_eq_some_iff.1 h
      obtain ⟨d, h2, h⟩ := Option.bind_eq_some_iff.1 h
      injection h with h; subst h
      exact (((hd.trans (leafM_wth _ _)).trans (ih _ _ _ h1)).trans (mustM_wth _ _ _)).trans ((ih _ _ _ h2).trans (nodeM_wth _ _ _))
    · exact hd.trans (ih _ _ _ h)
  | g + 1, .formula nest, st, r, h => by
    have ih := run_wth toks depth g
    rw [run] at h
    obtain ⟨a, h1, h⟩ := Option.bind_eq_some_iff.1 h
    have ha := ih _ _ _ h1
    split at h
    · have hd := (ha.trans (leafM_wth toks a.2)).trans (deepM_wth toks depth (nest + 1) _)
      split at h
      · injection h with h; subst h; exact hd
      · obtain ⟨b, h2, h⟩ := Option.bind_eq_some_iff.1 h
        injection h with h; subst h
        exact (hd.trans (ih _ _ _ h2)).trans (nodeM_wth _ _ _)
    · injection h with h; subst h; exact ha
  | g + 1, .part l nest, st, r, h => by
    have ih := run_wth toks depth g
    rw [run] at h
    split at h
    · exact ih _ _ _ h
    · split at h
      · exact ih _ _ _ h
      · exact ih _ _ _ h
  | g + 1, .row l nest, st, r, h => by
    have ih := run_wth toks depth g
    rw [run] at h
    obtain ⟨a, h1, h⟩ := Option.bind_eq_some_iff.1 h
    exact (ih _ _ _ h1).trans (ih _ _ _ h)
  | g + 1, .loop l nest a, st, r, h => by
    have ih := run_wth toks depth g
    rw [run] at h
    split at h
    · obtain ⟨b, h1, h⟩ := Option.bind_eq_some_iff.1 h
      have hb := ((leafM_wth toks st).trans (ih _ _ _ h1)).trans (nodeM_wth 10 [a, (leafM toks st).1, b.1] _)
      split at h
      · injection h with h; subst h; exact hb
      · exact hb.trans (ih _ _ _ h)
    · injection h with h; subst h; exact Wth.refl _
  | g + 1, .neg nest, st, r, h => by
    have ih := run_wth toks depth g
    rw [run] at h
    split at h
    · have hd := (leafM_wth toks st).trans (deepM_wth toks depth (nest + 1) _)
      split at h
      · injection h with h; subst h; exact hd
      · obtain ⟨b, h2, h⟩ := Option.bind_eq_some_iff.1 h
        injection h with h; subst h
        exact (hd.trans (ih _ _ _ h2)).trans (nodeM_wth _ _ _)
    · exact ih _ _ _ h
  | g + 1, .factor nest, st, r, h => by
    have ih := run_wth toks depth g
    rw [run] at h
    split at h
    · have hd := (leafM_wth toks st).trans (deepM_wth toks depth (nest + 1) _)
      split at h
      · injection h with h; subst h; exact hd
      · obtain ⟨b, h2, h⟩ := Option.bind_eq_some_iff.1 h
        injection h with h; subst h
        exact (hd.trans (ih _ _ _ h2)).trans (nodeM_wth _ _ _)
    · exact ih _ _ _ h
  | g + 1, .atom nest, st, r, h => by
    have ih := run_wth toks depth g
    rw [run] at h
    split at h
    · injection h with h; subst h; exact Wth.refl _
    split at h
    · injection h with h; subst h; exact (leafM_wth _ _).trans (nodeM_wth _ _ _)
    split at h
    · injection h with h; subst h; exact (leafM_wth _ _).trans (nodeM_wth _ _ _)
    split at h
    · injection h with h; subst h; exact (leafM_wth _ _).trans (nodeM_wth _ _ _)
    split at h
    · obtain ⟨b, h1, h⟩ := Option.bind_eq_some_iff.1 h
      injection h with h; subst h
      exact (((leafM_wth _ _).trans (ih _ _ _ h1)).trans (mustM_wth _ _ _)).trans (nodeM_wth _ _ _)
    split at h
    · exact ih _ _ _ h
    · injection h with h; subst h; exact failM_wth _ _ _
  | g + 1, .name nest, st, r, h => by
    have ih := run_wth toks depth g
    rw [run] at h
    split at h
    · injection h with h; subst h; exact (leafM_wth _ _).trans (nodeM_wth _ _ _)
    · obtain ⟨l, h1, h⟩ := Option.bind_eq_some_iff.1 h
      injection h with h; subst h
      exact ((((leafM_wth _ _).trans (qualM_wth _ _)).trans (mustM_wth _ _ _)).trans (listM_wth toks _ (fun s k hk => ih _ _ _ hk) _ _ h1)).trans ((mustM_wth _ _ _).trans (nodeM_wth _ _ _))

end Go.Proofs.YtdjkibbnkklajaaGreatDoor
