/- The walks of the code that the claim reaches, and the plain laws: FofW, AstW1, ATypedW. No condition of ours. -/
import Derived.Test.YtemkhbmkaalgdaaGreatDoorM34
import Derived.Test.YtemkhbmkaalgdaaGreatDoorM25
import Derived.Test.YtemkhbmkaalgdaaGreatDoorM26
import Derived.Test.YtemkhbmkaalgdaaGreatDoorM17
namespace Go.Proofs.YtemkhbmkaalgdaaGreatDoor
open Go.RowKit Go
def FofPost (x : PE) (w : World) (r : Ending) (w' : World) : Prop :=
  ∃ am wn cm ae ce, r = .returned (.tuple #[.agg #[.int .i64 x.op, .string ⟨x.name.toArray⟩, .string ⟨x.module.toArray⟩, .bool (decide (x.num < 0)), .slice am wn cm, .bool x.yes, .slice ae x.kids.length ce, .int .i64 x.at_], .int .i64 0]) ∧
    EAt XA (fun b => w.heap.size ≤ b) w' (.slice am wn cm) (.slice ae x.kids.length ce) x ∧ Below w.heap.size w w'
def EPostZ (x : PE) (w : World) (e : Ending) (w' : World) : Prop :=
  ∃ am wn cm ae ce, e = .returned (.agg #[.int .i64 x.op, .string ⟨x.name.toArray⟩, .string ⟨x.module.toArray⟩, .bool (decide (x.num < 0)), .slice am wn cm, .bool x.yes, .slice ae x.kids.length ce, .int .i64 x.at_]) ∧
    EAt XA (fun b => w.heap.size ≤ b) w' (.slice am wn cm) (.slice ae x.kids.length ce) x ∧ Below w.heap.size w w'
theorem EPostA.s {x : PE} {w w' : World} {e : Ending} (h : EPostA x w e w') : EPostZ x w e w' := h
theorem env_ok {S : List UInt8} {toks : List Tok} {nodes : List Nd} {ce : CE} (F : FGood S toks nodes ce) (B : Nat) (tv nv : Value) : REnv.ok ⟨B, tv, nv, toks, nodes, true⟩ where
  len := F.good.fewt
  nums u hu hk W := by
    have h := lexAll_nums F.lexed _ (peek_mem (lexAll_laid F.lexed).some u) hk
    obtain ⟨X, hX, eX⟩ := bytes_of (textAt toks u)
    simp only
    rw [eX, ← hX]
    have h' : numTok X.data.toList := by rw [hX]; exact h
    refine zparse_any X W ?_ ?_ h'.1 (fun q => by rw [← size_list]; exact h'.2.2.2 q)
    · rw [← size_list]; exact List.length_pos_iff.2 h'.2.1
    · rw [← size_list]; exact h'.2.2.1
theorem root_kid {S : List UInt8} {toks : List Tok} {nodes : List Nd} {ce : CE} (F : FGood S toks nodes ce) : ∃ (r k : Nat) (ks : List Int), nodes.length = r + 1 ∧ nodes[r]? = some ⟨18, -1, (k : Int) :: ks⟩ ∧ Rep nodes k 0 ce.pt := by
  have hr := Rep.em (pre := []) (aloneT ce) 0 0 rfl
  have hnd : nodes.length = (aloneT ce).nd := by rw [F.nodes_eq, PT.em_len]
  have hp := (aloneT ce).nd_pos
  rw [List.nil_append, Nat.zero_add, ← F.nodes_eq, ← hnd] at hr
  obtain ⟨r, hr1⟩ : ∃ r, nodes.length = r + 1 := ⟨nodes.length - 1, by omega⟩
  rw [hr1, show (((r + 1 : Nat) : Int) - 1) = (r : Int) by omega, aloneT] at hr
  obtain ⟨ks, h1, h2⟩ := rep_node hr
  obtain ⟨k, ks', rfl, h3, _⟩ := repL_sub h2
  exact ⟨r, k, ks', hr1, h1, h3⟩
theorem expr_cells {w : World} {b : Nat} {c0 c1 c2 c3 c4 c5 c6 c7 : Value} (h : w.heap[b]? = some (.cells #[c0, c1, c2, c3, c4, c5, c6, c7] 40 (0, 0))) :
    w.cell? ⟨b, 0, none⟩ = some c0 ∧ w.cell? ⟨b, 1, none⟩ = some c1 ∧ w.cell? ⟨b, 2, none⟩ = some c2 ∧ w.cell? ⟨b, 3, none⟩ = some c3 ∧ w.cell? ⟨b, 4, none⟩ = some c4 ∧ w.cell? ⟨b, 5, none⟩ = some c5 ∧ w.cell? ⟨b, 6, none⟩ = some c6 ∧ w.cell? ⟨b, 7, none⟩ = some c7 ∧ ∀ j, w.frozen? ⟨b, j, none⟩ = false := by
  refine ⟨?_, ?_, ?_, ?_, ?_, ?_, ?_, ?_, fun j => by simp [World.frozen?, h]⟩ <;> (rw [Lib.cell_of_heap h]; rfl)
set_option maxHeartbeats 4000000 in
set_option maxRecDepth 100000 in
theorem formulaOf_yes (B : Nat) (at_ : Option Addr) (ct : Nat) (an : Option Addr) (cn : Nat) (S : ByteArray) (toks : List Tok) (nodes : List Nd) (ce : CE) (w : World) (h : TreeAt B w (.agg #[.slice at_ toks.length ct, .slice an nodes.length cn]) toks nodes) (hB : B ≤ w.heap.size) (F : FGood S.data.toList toks nodes ce) :
    Calls Tryz.prog 9 #[.agg #[.slice at_ toks.length ct, .slice an nodes.length cn]] w (FofPost (ce.pe toks 0) w) := by
  have hft := F.good.fewt
  have hfn := F.good.few
  obtain ⟨r, k, ks, hr1, hn, hrep⟩ := root_kid F
  have HA := Lib.hid (fun W (hW : Below w.heap.size w W) => as_yes B at_ ct an cn S toks nodes _ W (h.below (hW.mono hB)) (Nat.le_trans hB hW.size) F.good (by have := F.small; rw [size_list] at this; exact this) F.whole F.deep)
  have HX : Hid (∀ W, Below w.heap.size w W → Calls Tryz.prog 31 #[.agg #[.slice at_ toks.length ct, .slice an nodes.length cn], .int .i64 k] W (EPostZ (ce.pe toks 0) W)) := Lib.hid (fun W hW => by
    have hx := rexpr_reads ⟨B, .slice at_ toks.length ct, .slice an nodes.length cn, toks, nodes, true⟩ (env_ok F B _ _) (SizeOf.sizeOf ce + 1) ce 0 (by omega) F.okk (by have := F.lv; show 0 + ce.pt.lv ≤ toks.length; omega)
    have hy := hx k W hrep ⟨h.below (hW.mono hB), Nat.le_trans hB hW.size⟩
    exact hy.mono fun _ _ h => h.a.s)
  have HT := Lib.hid h
  have HN := Lib.hid hn
  have HR1 := Lib.hid hr1
  clear hr1
  generalize ce.pe toks 0 = x at HX ⊢
  have hal := (below_new w (.cells #[.slice at_ toks.length ct, .slice an nodes.length cn] 25)).alloc (by simp) (.cells #[.int .i64 0, .string ⟨#[]⟩, .string ⟨#[]⟩, .bool false, .slice none 0 0, .bool false, .slice none 0 0, .int .i64 0] 40)
  have e1 := (Lib.alloc_old (w.alloc (.cells #[.slice at_ toks.length ct, .slice an nodes.length cn] 25)) (.cells #[.int .i64 0, .string ⟨#[]⟩, .string ⟨#[]⟩, .bool false, .slice none 0 0, .bool false, .slice none 0 0, .int .i64 0] 40) w.heap.size (by simp)).trans (heap_alloc_new w (.cells #[.slice at_ toks.length ct, .slice an nodes.length cn] 25))
  have e2 := heap_alloc_new (w.alloc (.cells #[.slice at_ toks.length ct, .slice an nodes.length cn] 25)) (.cells #[.int .i64 0, .string ⟨#[]⟩, .string ⟨#[]⟩, .bool false, .slice none 0 0, .bool false, .slice none 0 0, .int .i64 0] 40)
  rw [World.size_alloc] at e2
  clear h F hrep hn
  go_enter Tryz.func9, Tryz.ntmps9
  go_upto_region 3 with (go_at_call 28; refine (HA.out _ hal).mono ?_; rintro e w3 ⟨rfl, hb3⟩)
  have E1 := (hb3.block w.heap.size (by simp; omega)).trans e1
  have E2 := (hb3.block (w.heap.size + 1) (by simp)).trans e2
  have hb4 := hal.trans (hb3.mono (by simp; omega))
  obtain ⟨hi, hni⟩ := List.getElem?_eq_some_iff.1 HN.out
  obtain ⟨b, off, cap, kv, hnv, hbB, x0, x1, x2, hkv⟩ := (HT.out.below (hb4.mono hB)).node hi
  simp only [Value.slice.injEq] at hnv
  obtain ⟨rfl, -, rfl⟩ := hnv
  rw [hni] at hkv
  obtain ⟨ak, ck, rfl, _, hkf⟩ := hkv.form
  simp only at x2 hkf
  obtain ⟨bk, ok, rfl, hbk, hkc⟩ := hkf (by simp)
  have k0 := hkc 0 (by simp)
  simp only [List.getElem_cons_zero, Nat.add_zero] at k0
  obtain ⟨c0, c1⟩ := tree_cells E1
  have hz4 := hb4.size
  have hl1 := (Array.getElem?_eq_some_iff.1 E1).1
  have hl2 := (Array.getElem?_eq_some_iff.1 E2).1
  have hr1 := HR1.out
  have HNI : Hid (((nodes.length : Int) - 1) = (r : Int)) := Lib.hid (by omega)
  have hrI : (r : Int) < (nodes.length : Int) := by omega
  clear hb3 e1 e2 hal HA x0 x1 hkc hkf hkv hni HT HN E1 hr1 HR1
  go_region_with (first | (go_at_call 13; refine (root_tree at_ toks.length ct (some ⟨b, off, none⟩) nodes.length cn _ (by omega)).mono ?_; rintro e w5 ⟨rfl, hb5⟩; rw [HNI.out]; have d0 := (hb5.cell (p := ⟨w.heap.size, 0, none⟩) hl1).trans c0; have d1 := (hb5.cell (p := ⟨w.heap.size, 1, none⟩) hl1).trans c1; have dx := (hb5.cell (p := ⟨b, off + r * 3 + 2, none⟩) (by show b < w3.heap.size; omega)).trans x2; have dk := (hb5.cell (p := ⟨bk, ok, none⟩) (by show bk < w3.heap.size; omega)).trans k0) | (go_at_call 31; refine (HX.out _ (hb4.drew.trans (hb5.mono hz4))).mono ?_; rintro e w6 ⟨am, wn, cm, ae, c6, rfl, hx6, hb6⟩; have E6 := (hb6.block (w.heap.size + 1) (Nat.lt_of_lt_of_le hl2 hb5.size)).trans ((hb5.block (w.heap.size + 1) hl2).trans E2); obtain ⟨r0, r1, r2, r3, r4, r5, r6, r7, rz⟩ := expr_cells E6; have HX6 := Lib.hid hx6; have HB6 := Lib.hid hb6; have HB5 := Lib.hid hb5; clear hx6 hb6 hb5 E6 d0 d1 dx dk))
  all_goals
    have hb56 := hb4.drew.trans (HB5.out.mono hz4)
    have hb66 := hb56.trans (HB6.out.mono hb56.size)
    have hz5 := hb56.size
    have hl5 : w.heap.size + 1 < w5.heap.size := Nat.lt_of_lt_of_le hl2 HB5.out.size
    have hx6' : EAt XA (fun b => w.heap.size + 1 < b) w6 (.slice am wn cm) (.slice ae x.kids.length c6) x := HX6.out.imp (fun b hb _ => by omega)
    clear HX6 HB6 HB5 hb56 hb4 c0 c1 x2 k0 E2 HX HNI
    go_wp2
    refine bodyPost_ret (v := .tuple #[.agg #[.int .i64 x.op, .string ⟨x.name.toArray⟩, .string ⟨x.module.toArray⟩, .bool (decide (x.num < 0)), .slice am wn cm, .bool x.yes, .slice ae x.kids.length c6, .int .i64 x.at_], .int .i64 0]) (by simp [results, Tryz.results9, go_sem, r0, r1, r2, r3, r4, r5, r6, r7]) rfl ⟨am, wn, cm, ae, c6, rfl, ?_, ?_⟩
    · exact (hx6'.frame (((((((Alk.set _ (fun b hb => by show b ≠ w.heap.size + 1; omega)).trans (Alk.set _ (fun b hb => by show b ≠ w.heap.size + 1; omega))).trans (Alk.set _ (fun b hb => by show b ≠ w.heap.size + 1; omega))).trans (Alk.set _ (fun b hb => by show b ≠ w.heap.size + 1; omega))).trans (Alk.set _ (fun b hb => by show b ≠ w.heap.size + 1; omega))).trans (Alk.set _ (fun b hb => by show b ≠ w.heap.size + 1; omega))).trans ((Alk.set _ (fun b hb => by show b ≠ w.heap.size + 1; omega)).trans (Alk.set _ (fun b hb => by show b ≠ w.heap.size + 1; omega))))).imp (fun b hb _ => by omega)
    · exact ((((((((hb66.setCell (by simp) _).setCell (by simp) _).setCell (by simp) _).setCell (by simp) _).setCell (by simp) _).setCell (by simp) _).setCell (by simp) _).setCell (by simp) _)
end Go.Proofs.YtemkhbmkaalgdaaGreatDoor

namespace Go.Proofs.YtemkhbmkaalgdaaGreatDoor
open Go.RowKit Go
set_option maxHeartbeats 1000000 in
set_option maxRecDepth 100000 in
theorem dumpX_any {M : Nat} (x : PE) (hf : x.fits M) (B : Nat) (am : Option Addr) (wn cm : Nat) (ae : Option Addr) (ce : Nat) (w : World) (h : EAt XA (fun b => b < B) w (.slice am wn cm) (.slice ae x.kids.length ce) x) (hB : B ≤ w.heap.size) (hd : x.dump.length ≤ 1099511627776) (hz : x.size ≤ 1099511627776) :
    Calls Tryz.prog 26 #[.agg #[.int .i64 x.op, .string ⟨x.name.toArray⟩, .string ⟨x.module.toArray⟩, .bool (decide (x.num < 0)), .slice am wn cm, .bool x.yes, .slice ae x.kids.length ce, .int .i64 x.at_]] w (StrPost x.dump w) := by
  have hbb := (below_new w (.cells (boxA x.op ⟨x.name.toArray⟩ ⟨x.module.toArray⟩ (decide (x.num < 0)) (.slice am wn cm) x.yes (.slice ae x.kids.length ce) x.at_) 40))
  have hbd := Bld.fresh (w.alloc (.cells (boxA x.op ⟨x.name.toArray⟩ ⟨x.module.toArray⟩ (decide (x.num < 0)) (.slice am wn cm) x.yes (.slice ae x.kids.length ce) x.at_) 40))
  rw [World.size_alloc] at hbd
  have hb2 := hbb.alloc hbb.size (.cells #[.pointer none, .slice none 0 0] 102)
  have hbox := (Lib.alloc_old _ (.cells #[.pointer none, .slice none 0 0] 102) w.heap.size (by simp)).trans (heap_alloc_new w (.cells (boxA x.op ⟨x.name.toArray⟩ ⟨x.module.toArray⟩ (decide (x.num < 0)) (.slice am wn cm) x.yes (.slice ae x.kids.length ce) x.at_) 40))
  have hHD := fun W hW hWB => edump_any (SizeOf.sizeOf x + 1) x (by omega) hf B (w.heap.size + 1) (w.heap.size + 1) am wn cm ae ce [] W hW (by omega) hWB
  have HD := Lib.hid hHD
  have HE := Lib.hid (fun W (hW : Below w.heap.size w W) => EAt.frame (Alk.ofB hW (fun b hb => by omega)) h)
  have hs2 : w.heap.size + 1 ≤ ((w.alloc (.cells (boxA x.op ⟨x.name.toArray⟩ ⟨x.module.toArray⟩ (decide (x.num < 0)) (.slice am wn cm) x.yes (.slice ae x.kids.length ce) x.at_) 40)).alloc (.cells #[.pointer none, .slice none 0 0] 102)).heap.size := by simp
  clear hbb hHD h
  go_enter Tryz.func26, Tryz.ntmps26
  go_upto_region 2 with fail
  change Code.wp _ _ _ _ ((w.alloc (.cells (boxA x.op ⟨x.name.toArray⟩ ⟨x.module.toArray⟩ (decide (x.num < 0)) (.slice am wn cm) x.yes (.slice ae x.kids.length ce) x.at_) 40)).alloc (.cells #[.pointer none, .slice none 0 0] 102))
  generalize (w.alloc _).alloc _ = w2 at hbd hb2 hbox hs2 ⊢
  obtain ⟨y0, y1, y2, y3, y4, y5, y6, y7⟩ := boxA_cells hbox
  have HC := Lib.hid (HD.out w2 (HE.out w2 hb2) hbd hs2 (by simpa using hd) hz)
  clear hbd hbox HD HE
  go_wp2_with (first | (go_at_call 45; refine HC.out.mono ?_; rintro e w3 ⟨rfl, hbd3, hl3, ho3⟩; rw [List.nil_append] at hbd3; have hz3 := hl3.size) | (go_at_call 37; refine (bstring_any _ _ x.dump _ hbd3 (by omega)).mono ?_; rintro e w4 ⟨rfl, hbd4, hl4, ho4⟩))
  go_ret
  exact ⟨rfl, hb2.trans ((hl3.trans hl4).mono (by omega))⟩
theorem int_beq {a b : Nat} (h : a = b) : ((a : Int) == (b : Int)) = true := by rw [h]; exact beq_self_eq_true _
set_option maxHeartbeats 2000000 in
set_option maxRecDepth 100000 in
theorem anchor_any (w : World) : Calls Tryz.prog 6 #[] w fun e w' => e = .returned (.bool true) ∧ Below w.heap.size w w' := by
  obtain ⟨toks, nodes, hform, F, hd, hsz, hat⟩ : ∃ toks nodes, formF (ByteArray.mk #[40, 120, 41, 43, 49]).data.toList 9 = .good toks nodes ∧ FGood (ByteArray.mk #[40, 120, 41, 43, 49]).data.toList toks nodes exC ∧ (exC.pe toks 0).dump = [91, 55, 32, 91, 51, 32, 120, 93, 32, 91, 49, 32, 49, 93, 93] ∧ (exC.pe toks 0).size = 3 ∧ (exC.pe toks 0).at_ = 3 := ⟨exF, _, exF_form, ex_good, ex_dump, ex_size, by rw [ex_pe]; rfl⟩
  have HF := Lib.hid (fun W => formula_any ⟨#[40, 120, 41, 43, 49]⟩ 9 W (by omega) (by omega) (by decide))
  rw [hform] at HF
  have hfit := F.fits
  have HFo := Lib.hid (fun B at_ ct an cn W hT hB => formulaOf_yes B at_ ct an cn ⟨#[40, 120, 41, 43, 49]⟩ toks nodes exC W hT hB F)
  generalize exC.pe toks 0 = x at HFo hd hsz hat hfit
  have HDX : Hid (∀ (B : Nat) (am : Option Addr) (wn cm : Nat) (ae : Option Addr) (ce : Nat) (W : World), EAt XA (fun b => b < B) W (.slice am wn cm) (.slice ae x.kids.length ce) x → B ≤ W.heap.size → Calls Tryz.prog 26 #[.agg #[.int .i64 x.op, .string ⟨x.name.toArray⟩, .string ⟨x.module.toArray⟩, .bool (decide (x.num < 0)), .slice am wn cm, .bool x.yes, .slice ae x.kids.length ce, .int .i64 x.at_]] W fun e w' => e = .returned (.string ⟨#[91, 55, 32, 91, 51, 32, 120, 93, 32, 91, 49, 32, 49, 93, 93]⟩) ∧ Below W.heap.size W w') := Lib.hid (fun B am wn cm ae ce W hE hB => (dumpX_any x hfit B am wn cm ae ce W hE hB (by rw [hd]; decide) (by omega)).mono fun e w' h => ⟨by rw [h.1, hd], h.2⟩)
  have HSX := Lib.hid (fun B am wn cm ae ce W hE hB => size_any (SizeOf.sizeOf x + 1) x (by omega) B am wn cm ae ce W hE hB (by omega))
  have h3a : ((x.at_ : Int) == 3) = true := int_beq hat
  have h3s : ((x.size : Int) == 3) = true := int_beq hsz
  clear hform hfit hd hsz hat F
  go_enter Tryz.func6, Tryz.ntmps6
  go_upto_region 2 with (go_at_call 25; refine (HF.out _).mono ?_; rintro e w1 ⟨hb1, at_, ct, an, cn, rfl, hty⟩)
  have hb2 := (below_new w1 (.cells #[.slice at_ toks.length ct, .slice an nodes.length cn] 25)).alloc (by simp) (.cells #[.int .i64 0, .int .i64 0] 44)
  have hT := (hty.at).below hb2
  have e1 := (Lib.alloc_old (w1.alloc (.cells #[.slice at_ toks.length ct, .slice an nodes.length cn] 25)) (.cells #[.int .i64 0, .int .i64 0] 44) w1.heap.size (by simp)).trans (heap_alloc_new w1 (.cells #[.slice at_ toks.length ct, .slice an nodes.length cn] 25))
  have hbw := hb1.trans (hb2.mono hb1.size)
  have hs2 := hb2.size
  clear hty hb1 hb2 HF
  generalize (w1.alloc _).alloc _ = w3 at hT e1 hbw hs2 ⊢
  obtain ⟨c0, c1⟩ := tree_cells e1
  have HFx := Lib.hid (HFo.out w1.heap.size at_ ct an cn w3 hT hs2)
  clear HFo hT e1
  go_upto_region 3 with (go_at_call 9; refine HFx.out.mono ?_; rintro e w4 ⟨am, wn, cm, ae, ce, rfl, hx4, hb4⟩)
  have hb5 := (hb4.alloc hb4.size (.cells (boxA x.op ⟨x.name.toArray⟩ ⟨x.module.toArray⟩ (decide (x.num < 0)) (.slice am wn cm) x.yes (.slice ae x.kids.length ce) x.at_) 40))
  have hbox := heap_alloc_new w4 (.cells (boxA x.op ⟨x.name.toArray⟩ ⟨x.module.toArray⟩ (decide (x.num < 0)) (.slice am wn cm) x.yes (.slice ae x.kids.length ce) x.at_) 40)
  have hx5 : EAt XA (fun b => b < w4.heap.size) (w4.alloc (.cells (boxA x.op ⟨x.name.toArray⟩ ⟨x.module.toArray⟩ (decide (x.num < 0)) (.slice am wn cm) x.yes (.slice ae x.kids.length ce) x.at_) 40)) (.slice am wn cm) (.slice ae x.kids.length ce) x := (hx4.imp (fun b _ h => h)).frame ⟨by simp, fun b _ hb => Lib.alloc_old _ _ _ hb⟩
  have hs5 : w4.heap.size ≤ (w4.alloc (.cells (boxA x.op ⟨x.name.toArray⟩ ⟨x.module.toArray⟩ (decide (x.num < 0)) (.slice am wn cm) x.yes (.slice ae x.kids.length ce) x.at_) 40)).heap.size := by simp
  have hbw5 := hbw.trans (hb5.mono hbw.size)
  clear hx4 hb4 hb5 hbw HFx c0 c1
  change Code.wp _ _ _ _ (w4.alloc (.cells (boxA x.op ⟨x.name.toArray⟩ ⟨x.module.toArray⟩ (decide (x.num < 0)) (.slice am wn cm) x.yes (.slice ae x.kids.length ce) x.at_) 40))
  generalize hbs : w4.heap.size = bs at hbox hx5 hs5 ⊢
  clear hbs
  generalize w4.alloc _ = w5 at hbox hx5 hs5 hbw5 ⊢
  obtain ⟨y0, y1, y2, y3, y4, y5, y6, y7⟩ := boxA_cells hbox
  have HD5 := Lib.hid (HDX.out bs am wn cm ae ce w5 hx5 hs5)
  have HE5 := Lib.hid hx5
  have HB5 := Lib.hid hbox
  clear hx5 hbox HDX
  go_wp2_with (first | (go_at_call 26; refine HD5.out.mono ?_; rintro e w6 ⟨rfl, hb6⟩; have hbox6 := (hb6.block bs (Array.getElem?_eq_some_iff.1 HB5.out).1).trans HB5.out; obtain ⟨z0, z1, z2, z3, z4, z5, z6, z7⟩ := boxA_cells hbox6; have HS6 := Lib.hid (HSX.out bs am wn cm ae ce w6 (HE5.out.frame (Alk.of hb6)) (Nat.le_trans hs5 hb6.size))) | (go_at_call 27; refine HS6.out.mono ?_; rintro e w7 ⟨rfl, hb7⟩))
  go_ret
  exact ⟨rfl, (hbw5.trans (hb6.mono hbw5.size)).trans (hb7.mono (Nat.le_trans hbw5.size hb6.size))⟩
end Go.Proofs.YtemkhbmkaalgdaaGreatDoor

namespace Go.Proofs.YtemkhbmkaalgdaaGreatDoor
open Go.RowKit Go
theorem clDump_append : ∀ (a b : List PE), clDump (a ++ b) = clDump a ++ clDump b
  | [], b => rfl
  | e :: a, b => by rw [List.cons_append, clDump, clDump, clDump_append a b, List.append_assoc]
set_option maxHeartbeats 2000000 in
set_option maxRecDepth 100000 in
theorem atyped_any {M : Nat} (base : Nat) (cl : List PE) (B : Nat) (ao : Option Addr) (cc : Nat) (w : World) (h : RowK (EK XA) (fun b => b < B) w (.slice ao cl.length cc) cl) (hB : B ≤ w.heap.size) (hb : base < 100) (hcl : cl.length ≤ 1000)
    (hf : ∀ e ∈ cl, e.fits M) (hz : ∀ e ∈ cl, e.size ≤ 1099511627776) (hd : ∀ e ∈ cl, e.dump.length ≤ 1099511627776) (hl : (clDump cl).length ≤ 1000000000000) :
    Calls Tryz.prog 41 #[.int .i64 base, .slice ao cl.length cc] w (StrPost ([58] ++ decF base ++ clDump cl) w) := by
  obtain ⟨ao', cc', hv, hcap, hform⟩ := h.form
  simp only [Value.slice.injEq] at hv
  obtain ⟨rfl, -, rfl⟩ := hv
  have HF := Lib.hid hform
  obtain ⟨DG, hDG, eDG⟩ := bytes_of (decF base)
  have HIT := Lib.hid (fun W => itoa_any base hb W)
  rw [eDG] at HIT
  have HD0 := Lib.hid hDG
  have HX := Lib.hid (fun (x : PE) (hx : x ∈ cl) am wn cm ae ce W hW hWB => dumpX_any x (hf x hx) B am wn cm ae ce W hW hWB (hd x hx) (hz x hx))
  have hdg : DG.size ≤ 2 := by rw [← size_list, hDG]; exact dec_two hb
  have HLT : Hid (∀ j, (clDump (cl.take j)).length ≤ (clDump cl).length) := Lib.hid fun j => by
    have := congrArg List.length (clDump_append (cl.take j) (cl.drop j))
    rw [List.take_append_drop, List.length_append] at this
    omega
  clear h hform hDG eDG hf hz hd
  go_enter Tryz.func41, Tryz.ntmps41
  go_wp2_with (go_at_call 63; refine (HIT.out _).mono ?_; rintro e w1 ⟨rfl, rfl⟩)
  go_loopw [5, 13] (fun s q wr => ∃ (j : Nat) (S : ByteArray), j ≤ cl.length ∧ q = .int .i64 j ∧ s = .string S ∧ S.data.toList = [58] ++ decF base ++ clDump (cl.take j) ∧ Below w1.heap.size w1 wr) (fun _ q _ => cl.length - (intOf q).toNat)
  case atStart => exact ⟨0, _, Nat.zero_le _, rfl, rfl, by rw [append_list, HD0.out]; simp [clDump], Below.refl _ _⟩
  case round =>
    obtain ⟨j, S, hj, rfl, rfl, hS, hbl⟩ := hrel
    have hw := hbl.size
    have HS := Lib.hid hS
    have hSz : S.size ≤ 1000000000003 := by
      rw [← size_list, hS]
      have := HLT.out j
      have := dec_two hb
      simp only [List.length_append, List.length_cons, List.length_nil]
      omega
    clear hS
    by_cases hlt : j < cl.length
    · obtain ⟨b, off, rfl, hbB, hbw, hkid⟩ := HF.out (by omega)
      obtain ⟨⟨m, kv⟩, hE, hc⟩ := hkid j hlt
      have hmem : cl[j] ∈ cl := List.getElem_mem hlt
      have hsn : cl.take (j + 1) = cl.take j ++ [cl[j]] := List.take_succ_eq_append_getElem hlt
      have hlen := HLT.out (j + 1)
      rw [hsn, clDump_append] at hlen
      have hE : EAt XA (fun b => b < B) w1 m kv cl[j] := hE
      obtain ⟨am1, wn1, cm1, ae1, ce1, rfl, rfl⟩ := hE.slX
      have HXx := HX.out _ hmem am1 wn1 cm1 ae1 ce1
      generalize cl[j] = x at hE hc hsn HXx hlen
      obtain ⟨XD, hXD, eXD⟩ := bytes_of x.dump
      unfold StrPost at HXx
      rw [eXD] at HXx
      simp only [clDump, List.length_append, List.append_nil] at hlen
      have hXs : XD.size ≤ 1000000000000 := by rw [← size_list, hXD]; omega
      have y0 := (hbl.cell (p := ⟨b, off + j * 8, none⟩) hbw).trans (hc 0 _ rfl)
      have y1 := (hbl.cell (p := ⟨b, off + j * 8 + 1, none⟩) hbw).trans (hc 1 _ rfl)
      have y2 := (hbl.cell (p := ⟨b, off + j * 8 + 2, none⟩) hbw).trans (hc 2 _ rfl)
      have y3 := (hbl.cell (p := ⟨b, off + j * 8 + 3, none⟩) hbw).trans (hc 3 _ rfl)
      have y4 := (hbl.cell (p := ⟨b, off + j * 8 + 4, none⟩) hbw).trans (hc 4 _ rfl)
      have y5 := (hbl.cell (p := ⟨b, off + j * 8 + 5, none⟩) hbw).trans (hc 5 _ rfl)
      have y6 := (hbl.cell (p := ⟨b, off + j * 8 + 6, none⟩) hbw).trans (hc 6 _ rfl)
      have y7 := (hbl.cell (p := ⟨b, off + j * 8 + 7, none⟩) hbw).trans (hc 7 _ rfl)
      simp only [strV] at y1 y2
      have hA : ∀ o, EAt XA (fun b => b < B) (wr.alloc o) (.slice am1 wn1 cm1) (.slice ae1 x.kids.length ce1) x := fun o => hE.frame (Alk.ofB (hbl.alloc hw o) (fun b hb => by omega))
      have hbA : ∀ o, Below w1.heap.size w1 (wr.alloc o) := fun o => hbl.alloc hw o
      have HI := Lib.hid (fun o => HXx (wr.alloc o) (hA o) (by simp; omega))
      have HSN : Hid ((S ++ XD).data.toList = [58] ++ decF base ++ clDump (cl.take (j + 1))) := Lib.hid (by rw [append_list, HS.out, hXD, hsn, clDump_append]; simp [clDump])
      clear hkid hc hE HXx hsn hA hlen hXD eXD
      have hkI : (j : Int) < (cl.length : Int) := by omega
      go_wp2_with (go_at_call 26; refine (HI.out _).mono ?_; rintro r w2 ⟨rfl, hb2⟩)
      exact ⟨⟨j + 1, _, by omega, by go_num, rfl, HSN.out, (hbA _).trans (hb2.mono (hbA _).size)⟩, by simp [intOf]; omega⟩
    · obtain rfl : j = cl.length := by omega
      have hkI : decide ((cl.length : Int) < (cl.length : Int)) = false := decide_eq_false (by omega)
      go_wp2
      go_ret
      refine ⟨congrArg (fun z => Ending.returned (Value.string z)) (bytes_ext ?_), hbl⟩
      rw [HS.out, List.take_length] <;> simp
end Go.Proofs.YtemkhbmkaalgdaaGreatDoor
