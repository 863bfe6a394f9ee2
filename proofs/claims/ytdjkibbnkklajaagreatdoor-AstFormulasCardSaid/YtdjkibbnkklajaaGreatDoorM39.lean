/- The walks of the code that the claim reaches, and the plain laws: AstW3, Law. No condition of ours. -/
import Derived.Test.YtdjkibbnkklajaaGreatDoorM38
import Derived.Test.YtdjkibbnkklajaaGreatDoorRows
import Derived.WalkKit
import Derived.ProofKit
import Derived.OpenShut
import Derived.OpenVars
namespace Go.Proofs.YtdjkibbnkklajaaGreatDoor
open Go.RowKit Go

mutual
theorem PE.size_le : ∀ e : PE, e.size ≤ e.sizeG
  | .mk _ _ _ _ _ _ kids _ => by
    rw [PE.size, PE.sizeG]
    have := sizeE_le kids
    omega
theorem sizeE_le : ∀ l : List PE, sizeE l ≤ sizeGE l
  | [] => Nat.le_refl _
  | e :: l => by
    rw [sizeE, sizeGE]
    have h1 := PE.size_le e
    have h2 := sizeE_le l
    omega
end
mutual
theorem PE.fits_ops {M : Nat} : ∀ {e : PE}, e.fits M → e.opsOk
  | .mk _ _ _ _ _ _ kids _, h => by
    rw [PE.fits] at h
    rw [PE.opsOk]
    exact ⟨h.1, fitsE_ops h.2.2.2.2.2.2⟩
theorem fitsE_ops {M : Nat} : ∀ {l : List PE}, fitsE M l → opsOkE l
  | [], _ => by rw [opsOkE]; trivial
  | e :: l, h => by
    rw [fitsE] at h
    rw [opsOkE]
    exact ⟨PE.fits_ops h.1, fitsE_ops h.2⟩
end

/-- A row of ints that a call has made, seen from an elder world. -/
def RowQ (w0 : World) (n : Nat) (l : List Int) (w : World) (e : Ending) (w' : World) : Prop :=
  ∃ g cap, e = .returned (.slice (some ⟨g, 0, none⟩) n cap) ∧ Ints w'.heap.size w' (.slice (some ⟨g, 0, none⟩) n cap) l ∧ Below w0.heap.size w0 w' ∧ Below w.heap.size w w'
theorem RowPost.q {w0 w w' : World} {l : List Int} {n : Nat} {e : Ending} (hn : l.length = n) (h : RowPost l w e w') (h0 : Below w0.heap.size w0 w) : RowQ w0 n l w e w' := by
  subst hn
  obtain ⟨g, cap, h1, h2, h3⟩ := h
  exact ⟨g, cap, h1, Sl.ofOwns h2, h0.trans (h3.mono h0.size), h3⟩

def MTQ (w0 : World) (toks : List Tok) (nodes : List Nd) (w : World) (e : Ending) (w' : World) : Prop :=
  ∃ at_ ct an cn, e = .returned (.agg #[.slice at_ toks.length ct, .slice an nodes.length cn]) ∧ TreeAt w'.heap.size w' (.agg #[.slice at_ toks.length ct, .slice an nodes.length cn]) toks nodes ∧ Below w.heap.size w w' ∧ Below w0.heap.size w0 w'
/-- What the document's answer's expression is, in its block. -/
def FBox (x : PE) (w0 : World) (Y : Nat) (W : World) : Prop :=
  ∃ ae ce, W.heap[Y]? = some (.cells (boxF x.op x.name x.module x.txt x.yes (.slice ae x.kids.length ce) x.at_) 42 (0, 0)) ∧ EAt XR (fun b => b < W.heap.size) W .nilIface (.slice ae x.kids.length ce) x ∧ Below w0.heap.size w0 W ∧ w0.heap.size ≤ Y

theorem FBox.fresh {P : Nat → Prop} {x : PE} {w0 W : World} {ae : Option Addr} {ce : Nat} (hx : EAt XR P W .nilIface (.slice ae x.kids.length ce) x) (hb : Below w0.heap.size w0 W) :
    FBox x w0 W.heap.size (W.alloc (.cells (boxF x.op x.name x.module x.txt x.yes (.slice ae x.kids.length ce) x.at_) 42)) :=
  ⟨ae, ce, heap_alloc_new _ _, ((hx.imp (Q := fun b => b < W.heap.size) fun b _ h => h).frame ⟨by simp, fun b _ hb => Lib.alloc_old _ _ _ hb⟩).imp fun b _ h => h, hb.alloc hb.size _, hb.size⟩
theorem FBox.put {x : PE} {w0 W : World} {n Y : Nat} {ae : Option Addr} {ce : Nat} (hx : EAt XR (fun b => n ≤ b) W .nilIface (.slice ae x.kids.length ce) x) (hn : Y < n) (hz : W.heap[Y]? = some (.cells (fCells 0 0 (.slice none 0 0)) 42 (0, 0))) (hb : Below w0.heap.size w0 W) (hY : w0.heap.size ≤ Y) :
    FBox x w0 Y (set7 W Y (.int .i64 x.op) (.string ⟨x.name.toArray⟩) (.string ⟨x.module.toArray⟩) (.string ⟨x.txt.toArray⟩) (.bool x.yes) (.slice ae x.kids.length ce) (.int .i64 x.at_)) :=
  ⟨ae, ce, boxF_set hz _ _ _ _ _ _ _, (hx.frame (set7_alk _ _ _ _ _ _ _ _ _ _ fun k hk => by omega)).imp fun b _ h => h, set7_below hb hY _ _ _ _ _ _ _, hY⟩

set_option maxHeartbeats 8000000 in
set_option maxRecDepth 100000 in
theorem ast_good (s : ByteArray) (w : World) (hs : s.size ≤ 1500) (toks : List Tok) (nodes : List Nd) (h : formF s.data.toList 100 = .good toks nodes) :
    Calls Tryz.prog 3 #[.string s] w fun e w' => e = .returned (.bool true) ∧ Below w.heap.size w w' := by
  obtain ⟨ce, F⟩ := form_good (by omega) h
  have hft := F.good.fewt
  have hfn := F.good.few
  obtain ⟨r, k, ks, hr1, hn, hrep⟩ := root_kid F
  have HF := Lib.hid (fun W => formula_any s 100 W (by omega) (by omega) (by omega))
  rw [h] at HF
  have HFo := Lib.hid (fun B at_ ct an cn W hT hB => formulaOf_yes B at_ ct an cn s toks nodes ce W hT hB F)
  have HEX : Hid (∀ (B : Nat) (a2 : Option Addr) (c2 : Nat) (a3 : Option Addr) (c3 : Nat) (W : World), TreeAt B W (.agg #[.slice a2 toks.length c2, .slice a3 nodes.length c3]) toks nodes → B ≤ W.heap.size → Calls Tryz.prog 7 #[.agg #[.slice a2 toks.length c2, .slice a3 nodes.length c3], .int .i64 k] W (EPostR (ce.pe toks 0) W)) := Lib.hid (fun B a2 c2 a3 c3 W hT hB =>
    (fexpr_reads ⟨B, .slice a2 toks.length c2, .slice a3 nodes.length c3, toks, nodes, true⟩ (env_ok F B _ _) (SizeOf.sizeOf ce + 1) ce 0 (by omega) F.okk (by have := F.lv; show 0 + ce.pt.lv ≤ toks.length; omega) k W hrep ⟨hT, hB⟩).mono fun _ _ h => h.r)
  have hfit := F.fits
  have htold := PE.dump_told F.told
  have hfew := F.few
  generalize ce.pe toks 0 = x at HFo HEX hfit htold hfew
  have hsI : ¬ ((1500 : Int) < (s.size : Int)) := by omega
  have HN := Lib.hid hn
  have HR1 := Lib.hid hr1
  have HTD := Lib.hid htold
  clear h F hr1 hn hrep htold
  go_enter Tryz.func3, Tryz.ntmps3
  go_upto_region 6 with (first | (go_at_call 4; refine (anchor_any _).mono ?_; rintro e w1 ⟨rfl, hb1⟩) | (go_at_call 5; refine (HF.out _).mono ?_; rintro e w2 ⟨hb2, at_, ct, an, cn, rfl, hty⟩))
  have hb3 := (below_new w2 (.cells #[.slice at_ toks.length ct, .slice an nodes.length cn] 26)).alloc (by simp) (.cells #[.int .i64 0, .int .i64 0] 29)
  have e1 := (Lib.alloc_old (w2.alloc (.cells #[.slice at_ toks.length ct, .slice an nodes.length cn] 26)) (.cells #[.int .i64 0, .int .i64 0] 29) w2.heap.size (by simp)).trans (heap_alloc_new w2 (.cells #[.slice at_ toks.length ct, .slice an nodes.length cn] 26))
  have e2 := heap_alloc_new (w2.alloc (.cells #[.slice at_ toks.length ct, .slice an nodes.length cn] 26)) (.cells #[.int .i64 0, .int .i64 0] 29)
  rw [World.size_alloc] at e2
  have hbw := (hb1.trans (hb2.mono hb1.size)).trans (hb3.mono (hb1.trans (hb2.mono hb1.size)).size)
  have hT := hty.at.below hb3
  have hs3 : w2.heap.size + 1 < ((w2.alloc (.cells #[.slice at_ toks.length ct, .slice an nodes.length cn] 26)).alloc (.cells #[.int .i64 0, .int .i64 0] 29)).heap.size := by simp
  clear hb1 hb2 hb3 HF hty
  generalize (w2.alloc _).alloc _ = w3 at e1 e2 hbw hT hs3 ⊢
  generalize w2.heap.size = tb at e1 e2 hT hs3 ⊢
  obtain ⟨c0, c1⟩ := tree_cells e1
  have HFx := Lib.hid (HFo.out tb at_ ct an cn w3 hT (by omega))
  have HE1 := Lib.hid (And.intro e1 e2)
  clear e1 e2 HFo
  go_upto_region 7 with (go_at_call 6; refine HFx.out.mono ?_; rintro e w4 ⟨am, wn, cm, ae, ce, rfl, hx4, hb4⟩)
  have hb5 := hb4.alloc hb4.size (.cells (boxA x.op ⟨x.name.toArray⟩ ⟨x.module.toArray⟩ (decide (x.num < 0)) (.slice am wn cm) x.yes (.slice ae x.kids.length ce) x.at_) 37)
  have hxb := heap_alloc_new w4 (.cells (boxA x.op ⟨x.name.toArray⟩ ⟨x.module.toArray⟩ (decide (x.num < 0)) (.slice am wn cm) x.yes (.slice ae x.kids.length ce) x.at_) 37)
  have hx5 : EAt XA (fun b => b < w4.heap.size) (w4.alloc (.cells (boxA x.op ⟨x.name.toArray⟩ ⟨x.module.toArray⟩ (decide (x.num < 0)) (.slice am wn cm) x.yes (.slice ae x.kids.length ce) x.at_) 37)) (.slice am wn cm) (.slice ae x.kids.length ce) x := (hx4.imp (fun b _ h => h)).frame ⟨by simp, fun b _ hb => Lib.alloc_old _ _ _ hb⟩
  have hs5 : w4.heap.size < (w4.alloc (.cells (boxA x.op ⟨x.name.toArray⟩ ⟨x.module.toArray⟩ (decide (x.num < 0)) (.slice am wn cm) x.yes (.slice ae x.kids.length ce) x.at_) 37)).heap.size := by simp
  have e15 := (hb5.block tb (by omega)).trans HE1.out.1
  have e25 := (hb5.block (tb + 1) hs3).trans HE1.out.2
  have hbw5 := hbw.trans (hb5.mono hbw.size)
  have hT5 := hT.below (hb5.mono (by omega))
  have htx := hb4.size
  clear hb4 hb5 HE1 c0 c1 hbw hx4 HFx hT
  change Code.wp _ _ _ _ (w4.alloc (.cells (boxA x.op ⟨x.name.toArray⟩ ⟨x.module.toArray⟩ (decide (x.num < 0)) (.slice am wn cm) x.yes (.slice ae x.kids.length ce) x.at_) 37))
  generalize hxx : w4.heap.size = xb at hxb hx5 hs5 htx ⊢
  clear hxx
  generalize w4.alloc _ = w5 at hxb hx5 hs5 e15 e25 hbw5 hT5 ⊢
  obtain ⟨f0, f1, -⟩ := fault_cells e25
  go_upto_region 9 with fail
  clear f0 f1 e25
  obtain ⟨hi, hni⟩ := List.getElem?_eq_some_iff.1 HN.out
  obtain ⟨b, off, cap, kv, hnv, hbB, x0, x1, x2, hkv⟩ := hT5.node hi
  simp only [Value.slice.injEq] at hnv
  obtain ⟨rfl, -, rfl⟩ := hnv
  rw [hni] at hkv
  obtain ⟨ak, ck, rfl, _, hkf⟩ := hkv.form
  simp only at x2 hkf
  obtain ⟨bk, ok, rfl, hbk, hkc⟩ := hkf (by simp)
  have k0 := hkc 0 (by simp)
  simp only [List.getElem_cons_zero, Nat.add_zero] at k0
  obtain ⟨c0, c1⟩ := tree_cells e15
  have hrI : (r : Int) < (nodes.length : Int) := by have := HR1.out; omega
  have HNI : Hid (((nodes.length : Int) - 1) = (r : Int)) := Lib.hid (by have := HR1.out; omega)
  have HMT := Lib.hid (fun W (hW : Below w5.heap.size w5 W) => (mtree_any tb _ _ toks nodes W (hT5.below (hW.mono (by omega))) (by have := hW.size; omega) hft hfn).mono (R' := MTQ w5 toks nodes W) fun e w' h => by
    obtain ⟨a2, c2, a3, c3, h1, h2, h3⟩ := h
    exact ⟨a2, c2, a3, c3, h1, h2, h3, hW.trans (h3.mono hW.size)⟩)
  have hS : ∀ W, Below w5.heap.size w5 W → W.cell? ⟨tb, 0, none⟩ = some (.slice at_ toks.length ct) ∧ W.cell? ⟨tb, 1, none⟩ = some (.slice (some ⟨b, off, none⟩) nodes.length cn) ∧ W.cell? ⟨b, off + r * 3 + 2, none⟩ = some (.slice (some ⟨bk, ok, none⟩) (ks.length + 1) ck) ∧ W.cell? ⟨bk, ok, none⟩ = some (.int .i64 k) := fun W hW =>
    ⟨(hW.cell (p := ⟨tb, 0, none⟩) (by show tb < w5.heap.size; omega)).trans c0, (hW.cell (p := ⟨tb, 1, none⟩) (by show tb < w5.heap.size; omega)).trans c1, (hW.cell (p := ⟨b, off + r * 3 + 2, none⟩) (by show b < w5.heap.size; omega)).trans (by simpa using x2), (hW.cell (p := ⟨bk, ok, none⟩) (by show bk < w5.heap.size; omega)).trans k0⟩
  have HS := Lib.hid hS
  obtain ⟨c0, c1, x2, k0⟩ := hS w5 (Below.refl _ _)
  have HX5 := Lib.hid (And.intro hx5 hxb)
  have hb1 : tb < w5.heap.size := by omega
  have hb2 : b < w5.heap.size := by omega
  have hb3 : bk < w5.heap.size := by omega
  have HNE : Hid (∀ Y, w5.heap.size ≤ Y → tb ≠ Y ∧ b ≠ Y ∧ bk ≠ Y) := Lib.hid (fun Y hY => ⟨by omega, by omega, by omega⟩)
  clear hx5 hxb e15 hkv hkf hkc x0 x1 hni hS HN HR1 hT5 hi
  go_cut [7] (fun p wc => ∃ Y : Nat, p = .pointer (some ⟨Y, 0, none⟩) ∧ FBox x w5 Y wc)
  case first =>
    go_region_held3 (fun W => W.cell? ⟨tb, 0, none⟩ = some (.slice at_ toks.length ct) ∧ W.cell? ⟨tb, 1, none⟩ = some (.slice (some ⟨b, off, none⟩) nodes.length cn) ∧ W.cell? ⟨b, off + r * 3 + 2, none⟩ = some (.slice (some ⟨bk, ok, none⟩) (ks.length + 1) ck) ∧ W.cell? ⟨bk, ok, none⟩ = some (.int .i64 k))
      (first | (with_reducible exact p3) | ((try dsimp only); with_reducible exact And.intro ((set7_cell wE wR.heap.size _ _ _ _ _ _ _ (HNE.out _ hzR).1).trans p3.1) (And.intro ((set7_cell wE wR.heap.size _ _ _ _ _ _ _ (HNE.out _ hzR).1).trans p3.2.1) (And.intro ((set7_cell wE wR.heap.size _ _ _ _ _ _ _ (HNE.out _ hzR).2.1).trans p3.2.2.1) ((set7_cell wE wR.heap.size _ _ _ _ _ _ _ (HNE.out _ hzR).2.2).trans p3.2.2.2)))) | ((try dsimp only); with_reducible exact And.intro ((set7_cell wE wT.heap.size _ _ _ _ _ _ _ (HNE.out _ hzT).1).trans p3.1) (And.intro ((set7_cell wE wT.heap.size _ _ _ _ _ _ _ (HNE.out _ hzT).1).trans p3.2.1) (And.intro ((set7_cell wE wT.heap.size _ _ _ _ _ _ _ (HNE.out _ hzT).2.1).trans p3.2.2.1) ((set7_cell wE wT.heap.size _ _ _ _ _ _ _ (HNE.out _ hzT).2.2).trans p3.2.2.2)))) | ((try dsimp only); with_reducible exact And.intro ((set7_cell wE w5.heap.size _ _ _ _ _ _ _ (HNE.out _ (Nat.le_refl _)).1).trans p3.1) (And.intro ((set7_cell wE w5.heap.size _ _ _ _ _ _ _ (HNE.out _ (Nat.le_refl _)).1).trans p3.2.1) (And.intro ((set7_cell wE w5.heap.size _ _ _ _ _ _ _ (HNE.out _ (Nat.le_refl _)).2.1).trans p3.2.2.1) ((set7_cell wE w5.heap.size _ _ _ _ _ _ _ (HNE.out _ (Nat.le_refl _)).2.2).trans p3.2.2.2)))) | (go_keep; done))
      (first
        | (go_at_call 8; refine (HMT.out _ ?_).mono ?_; (first | exact (Below.refl _ _).drew | exact ((Below.refl _ _).alloc (Nat.le_refl _) _).drew); rintro e wT ⟨a2, c2, a3, c3, rfl, hTT, hbT, hqT⟩; have p3 := HS.out _ hqT; have hzT := hqT.size)
        | (go_at_call 9; refine (root_tree at_ toks.length ct (some ⟨b, off, none⟩) nodes.length cn _ (by omega)).mono ?_; rintro e wR ⟨rfl, hbR⟩; rw [HNI.out]; have hTR : Below wT.heap.size wT wR := (by first | exact hbR | exact (below_new wT _).trans (hbR.mono (by simp))); have hqR := hqT.trans (hTR.mono hqT.size); have p3 := HS.out _ hqR; have hzR := hqR.size)
        | (go_at_call 7; refine (HEX.out wT.heap.size a2 c2 a3 c3 _ ?_ ?_).mono ?_; (first | exact hTT.below hTR | exact hTT.below (hTR.alloc hTR.size _)); (first | exact hTR.size | exact (hTR.alloc hTR.size _).size); rintro e wE ⟨ae2, ce2, rfl, hxE, hbE⟩; have hRE : Below wR.heap.size wR wE := (by first | exact hbE | exact (below_new wR _).trans (hbE.mono (by simp))); have hqE := hqR.trans (hRE.mono hqR.size); have p3 := HS.out _ hqE; have hzE := hRE.size; (first | (have hZ : wE.heap[wR.heap.size]? = some (.cells (fCells 0 0 (.slice none 0 0)) 42 (0, 0)) := (hbE.block wR.heap.size (by simp)).trans (heap_alloc_new wR (.cells #[.int .i64 0, .string ⟨#[]⟩, .string ⟨#[]⟩, .string ⟨#[]⟩, .bool false, .slice none 0 0, .int .i64 0] 42)); obtain ⟨d0, d1, d2, d3, d4, d5, d6⟩ := fCells_all hZ; have dz := fCells_free hZ) | (have hZ : wE.heap[wT.heap.size]? = some (.cells (fCells 0 0 (.slice none 0 0)) 42 (0, 0)) := (hRE.block wT.heap.size (by have := hbR.size; simp at this; omega)).trans ((hbR.block wT.heap.size (by simp)).trans (heap_alloc_new wT (.cells #[.int .i64 0, .string ⟨#[]⟩, .string ⟨#[]⟩, .string ⟨#[]⟩, .bool false, .slice none 0 0, .int .i64 0] 42))); obtain ⟨d0, d1, d2, d3, d4, d5, d6⟩ := fCells_all hZ; have dz := fCells_free hZ) | (have hZ : wE.heap[w5.heap.size]? = some (.cells (fCells 0 0 (.slice none 0 0)) 42 (0, 0)) := (hRE.block w5.heap.size (by have h1 := hbT.size; have h2 := hTR.size; simp at h1; omega)).trans ((hTR.block w5.heap.size (by have := hbT.size; simp at this; omega)).trans ((hbT.block w5.heap.size (by simp)).trans (heap_alloc_new w5 (.cells #[.int .i64 0, .string ⟨#[]⟩, .string ⟨#[]⟩, .string ⟨#[]⟩, .bool false, .slice none 0 0, .int .i64 0] 42)))); obtain ⟨d0, d1, d2, d3, d4, d5, d6⟩ := fCells_all hZ; have dz := fCells_free hZ) | skip)))
    · clear c0 c1 x2 k0 p3
      go_wp2_with fail
      go_meet
      exact ⟨wE.heap.size, rfl, FBox.fresh hxE hqE⟩
    · clear c0 c1 x2 k0 p3 d0 d1 d2 d3 d4 d5 d6 dz
      go_wp2_with fail
      go_meet
      exact ⟨wR.heap.size, rfl, FBox.put hxE (by simp) hZ hqE hzR⟩
    · have hlt : wT.heap.size < wR.heap.size := by have := hbR.size; simp at this; omega
      clear c0 c1 x2 k0 p3 d0 d1 d2 d3 d4 d5 d6 dz
      go_wp2_with fail
      go_meet
      exact ⟨wT.heap.size, rfl, FBox.put hxE hlt hZ hqE hzT⟩
    · have hlt : w5.heap.size < wR.heap.size := by have h1 := hbT.size; have h2 := hTR.size; simp at h1; omega
      clear c0 c1 x2 k0 p3 d0 d1 d2 d3 d4 d5 d6 dz
      go_wp2_with fail
      go_meet
      exact ⟨w5.heap.size, rfl, FBox.put hxE hlt hZ hqE (Nat.le_refl _)⟩
  case rest =>
    obtain ⟨Y, rfl, ae2, ce2, hY, hxF, hq6, hYw⟩ := hcut
    obtain ⟨w6, rfl⟩ : ∃ w6 : World, w6 = wc := ⟨_, rfl⟩
    clear c0 c1 x2 k0 HS HNE HEX HMT HNI hb1 hb2 hb3
    have hz6 := hq6.size
    have hxb6 := (hq6.block xb hs5).trans HX5.out.2
    have hxA6 := HX5.out.1.frame (Alk.ofB hq6 fun b hb => by omega)
    have hlY := (Array.getElem?_eq_some_iff.1 hY).1
    have hbw6 := hbw5.trans (hq6.mono hbw5.size)
    have hd1 : x.dump.length + 1 ≤ x.sizeG * (3 * 65536 + 30) := by rw [← HTD.out]; exact dumpT_len x hfit
    have hd2 : x.sizeG * (3 * 65536 + 30) ≤ 200000 * (3 * 65536 + 30) := Nat.mul_le_mul_right _ hfew
    have hsg : x.size ≤ x.sizeG := PE.size_le x
    have hsz : x.size ≤ 1099511627776 := by omega
    have hdl : x.dump.length ≤ 1099511627776 := by omega
    have hop := PE.fits_ops hfit
    obtain ⟨DX, hDX, eDX⟩ := bytes_of x.dump
    have HD : Hid (∀ W, Below w6.heap.size w6 W → Calls Tryz.prog 10 #[.agg #[.int .i64 x.op, .string ⟨x.name.toArray⟩, .string ⟨x.module.toArray⟩, .bool (decide (x.num < 0)), .slice am wn cm, .bool x.yes, .slice ae x.kids.length ce, .int .i64 x.at_]] W (fun e w' => e = .returned (.string DX) ∧ Below w6.heap.size w6 w' ∧ Below W.heap.size W w')) := Lib.hid (fun W hW => (dumpX_any x hfit xb am wn cm ae ce W (hxA6.frame (Alk.ofB hW fun b hb => by omega)) (by have := hW.size; omega) hdl hsz).mono fun e w' h => ⟨by rw [h.1, eDX], hW.trans (h.2.mono hW.size), h.2⟩)
    have HRD : Hid (∀ W, Below w6.heap.size w6 W → Calls Tryz.prog 11 #[.agg #[.int .i64 x.op, .string ⟨x.name.toArray⟩, .string ⟨x.module.toArray⟩, .string ⟨x.txt.toArray⟩, .bool x.yes, .slice ae2 x.kids.length ce2, .int .i64 x.at_]] W (fun e w' => e = .returned (.string DX) ∧ Below w6.heap.size w6 w' ∧ Below W.heap.size W w')) := Lib.hid (fun W hW => (rdump_any (SizeOf.sizeOf x + 1) x (by omega) hop w6.heap.size .nilIface ae2 ce2 W (hxF.frame (Alk.ofB hW fun b hb => hb)) hW.size hsz (by rw [HTD.out]; exact hdl)).mono fun e w' h => ⟨by rw [h.1, HTD.out, eDX], hW.trans (h.2.mono hW.size), h.2⟩)
    have HA : Hid (∀ W, Below w6.heap.size w6 W → Calls Tryz.prog 13 #[.agg #[.int .i64 x.op, .string ⟨x.name.toArray⟩, .string ⟨x.module.toArray⟩, .bool (decide (x.num < 0)), .slice am wn cm, .bool x.yes, .slice ae x.kids.length ce, .int .i64 x.at_]] W (RowQ w6 x.size x.ats W)) := Lib.hid (fun W hW => (ats_any (SizeOf.sizeOf x + 1) x (by omega) xb am wn cm ae ce W (hxA6.frame (Alk.ofB hW fun b hb => by omega)) (by have := hW.size; omega) hsz).mono fun e w' h => h.q x.ats_len hW)
    have HRA : Hid (∀ W, Below w6.heap.size w6 W → Calls Tryz.prog 14 #[.agg #[.int .i64 x.op, .string ⟨x.name.toArray⟩, .string ⟨x.module.toArray⟩, .string ⟨x.txt.toArray⟩, .bool x.yes, .slice ae2 x.kids.length ce2, .int .i64 x.at_]] W (RowQ w6 x.size x.ats W)) := Lib.hid (fun W hW => (rats_any (SizeOf.sizeOf x + 1) x (by omega) w6.heap.size .nilIface ae2 ce2 W (hxF.frame (Alk.ofB hW fun b hb => hb)) hW.size hsz).mono fun e w' h => h.q x.ats_len hW)
    have HSZ : Hid (∀ W, Below w6.heap.size w6 W → Calls Tryz.prog 15 #[.agg #[.int .i64 x.op, .string ⟨x.name.toArray⟩, .string ⟨x.module.toArray⟩, .bool (decide (x.num < 0)), .slice am wn cm, .bool x.yes, .slice ae x.kids.length ce, .int .i64 x.at_]] W (fun e w' => e = .returned (.int .i64 x.size) ∧ Below w6.heap.size w6 w' ∧ Below W.heap.size W w')) := Lib.hid (fun W hW => (size_any (SizeOf.sizeOf x + 1) x (by omega) xb am wn cm ae ce W (hxA6.frame (Alk.ofB hW fun b hb => by omega)) (by have := hW.size; omega) hsz).mono fun e w' h => ⟨h.1, hW.trans (h.2.mono hW.size), h.2⟩)
    have hatl : x.ats.length ≤ 1099511627776 := by rw [x.ats_len]; exact hsz
    have HATL := Lib.hid hatl
    have hdd : (DX.toList == DX.toList) = true := beq_self_eq_true _
    have hss : ((x.size : Int) == (x.size : Int)) = true := beq_self_eq_true _
    obtain ⟨y0, y1, y2, y3, y4, y5, y6, y7⟩ := boxA_cells hxb6
    obtain ⟨z0, z1, z2, z3, z4, z5, z6⟩ := boxF_cells hY
    have HS : Hid (∀ W, Below w6.heap.size w6 W → W.cell? ⟨xb, 0, none⟩ = some (.int .i64 x.op) ∧ W.cell? ⟨xb, 1, none⟩ = some (.string ⟨x.name.toArray⟩) ∧ W.cell? ⟨xb, 2, none⟩ = some (.string ⟨x.module.toArray⟩) ∧ W.cell? ⟨xb, 3, none⟩ = some (.bool (decide (x.num < 0))) ∧ W.cell? ⟨xb, 4, none⟩ = some (.slice am wn cm) ∧ W.cell? ⟨xb, 5, none⟩ = some (.bool x.yes) ∧ W.cell? ⟨xb, 6, none⟩ = some (.slice ae x.kids.length ce) ∧ W.cell? ⟨xb, 7, none⟩ = some (.int .i64 x.at_) ∧ W.cell? ⟨Y, 0, none⟩ = some (.int .i64 x.op) ∧ W.cell? ⟨Y, 1, none⟩ = some (.string ⟨x.name.toArray⟩) ∧ W.cell? ⟨Y, 2, none⟩ = some (.string ⟨x.module.toArray⟩) ∧ W.cell? ⟨Y, 3, none⟩ = some (.string ⟨x.txt.toArray⟩) ∧ W.cell? ⟨Y, 4, none⟩ = some (.bool x.yes) ∧ W.cell? ⟨Y, 5, none⟩ = some (.slice ae2 x.kids.length ce2) ∧ W.cell? ⟨Y, 6, none⟩ = some (.int .i64 x.at_)) := Lib.hid (fun W hW => ⟨(hW.cell (p := ⟨xb, 0, none⟩) (by show xb < w6.heap.size; omega)).trans y0, (hW.cell (p := ⟨xb, 1, none⟩) (by show xb < w6.heap.size; omega)).trans y1, (hW.cell (p := ⟨xb, 2, none⟩) (by show xb < w6.heap.size; omega)).trans y2, (hW.cell (p := ⟨xb, 3, none⟩) (by show xb < w6.heap.size; omega)).trans y3, (hW.cell (p := ⟨xb, 4, none⟩) (by show xb < w6.heap.size; omega)).trans y4, (hW.cell (p := ⟨xb, 5, none⟩) (by show xb < w6.heap.size; omega)).trans y5, (hW.cell (p := ⟨xb, 6, none⟩) (by show xb < w6.heap.size; omega)).trans y6, (hW.cell (p := ⟨xb, 7, none⟩) (by show xb < w6.heap.size; omega)).trans y7, (hW.cell (p := ⟨Y, 0, none⟩) hlY).trans z0, (hW.cell (p := ⟨Y, 1, none⟩) hlY).trans z1, (hW.cell (p := ⟨Y, 2, none⟩) hlY).trans z2, (hW.cell (p := ⟨Y, 3, none⟩) hlY).trans z3, (hW.cell (p := ⟨Y, 4, none⟩) hlY).trans z4, (hW.cell (p := ⟨Y, 5, none⟩) hlY).trans z5, (hW.cell (p := ⟨Y, 6, none⟩) hlY).trans z6⟩)
    clear hDX eDX hxA6 hxF hY hxb6 HX5 hatl hd1 hd2 hsg hop hfit hfew HTD
    go_upto_region 10 with fail
    go_region_held3 (fun W => W.cell? ⟨xb, 0, none⟩ = some (.int .i64 x.op) ∧ W.cell? ⟨xb, 1, none⟩ = some (.string ⟨x.name.toArray⟩) ∧ W.cell? ⟨xb, 2, none⟩ = some (.string ⟨x.module.toArray⟩) ∧ W.cell? ⟨xb, 3, none⟩ = some (.bool (decide (x.num < 0))) ∧ W.cell? ⟨xb, 4, none⟩ = some (.slice am wn cm) ∧ W.cell? ⟨xb, 5, none⟩ = some (.bool x.yes) ∧ W.cell? ⟨xb, 6, none⟩ = some (.slice ae x.kids.length ce) ∧ W.cell? ⟨xb, 7, none⟩ = some (.int .i64 x.at_) ∧ W.cell? ⟨Y, 0, none⟩ = some (.int .i64 x.op) ∧ W.cell? ⟨Y, 1, none⟩ = some (.string ⟨x.name.toArray⟩) ∧ W.cell? ⟨Y, 2, none⟩ = some (.string ⟨x.module.toArray⟩) ∧ W.cell? ⟨Y, 3, none⟩ = some (.string ⟨x.txt.toArray⟩) ∧ W.cell? ⟨Y, 4, none⟩ = some (.bool x.yes) ∧ W.cell? ⟨Y, 5, none⟩ = some (.slice ae2 x.kids.length ce2) ∧ W.cell? ⟨Y, 6, none⟩ = some (.int .i64 x.at_))
      (first | (with_reducible exact p3) | (go_keep; done))
      (first
        | (go_at_call 10; refine (HD.out _ (Below.refl _ _).drew).mono ?_; rintro e wD ⟨rfl, hqD, hbD⟩; have p3 := HS.out _ hqD)
        | (go_at_call 11; refine (HRD.out _ hqD).mono ?_; rintro e wE ⟨rfl, hqE, hbE⟩; have p3 := HS.out _ hqE)
        | (go_at_call 13; refine (HA.out _ hqE).mono ?_; rintro e wA ⟨gA, cA, rfl, hiA, hqA, hbA⟩; have p3 := HS.out _ hqA)
        | (go_at_call 14; (first | refine (HRA.out _ hqZ).mono ?_ | refine (HRA.out _ hqA).mono ?_); rintro e wB ⟨gB, cB, rfl, hiB, hqB, hbB⟩; have p3 := HS.out _ hqB)
        | (go_at_call 12; refine (same_yes wB.heap.size _ _ x.ats wB ((hiA.below hbB).mono hbB.size) hiB (Nat.le_refl _) HATL.out).mono ?_; rintro e wS ⟨rfl, hbS⟩; have hqS := hqB.trans (hbS.mono hqB.size); have p3 := HS.out _ hqS)
        | (go_at_call 15; refine (HSZ.out _ hqS).mono ?_; rintro e wZ ⟨rfl, hqZ, hbZ⟩; have p3 := HS.out _ hqZ))
    clear y0 y1 y2 y3 y4 y5 y6 y7 z0 z1 z2 z3 z4 z5 z6 p3
    go_wp2
    go_ret
    exact ⟨rfl, hbw6.trans (hqB.mono hbw6.size)⟩

/-- The law, at any text. -/
theorem ast_any (s : ByteArray) (w : World) (hs : s.size ≤ maxLen) :
    Calls Tryz.prog 3 #[.string s] w fun e w' => e = .returned (.bool true) ∧ Below w.heap.size w w' := by
  by_cases h : s.size ≤ 1500
  · cases hf : formF s.data.toList 100 with
    | bad c a => exact ast_bad s w h c a hf
    | good toks nodes => exact ast_good s w h toks nodes hf
  · exact ast_big s w hs (by omega)
end Go.Proofs.YtdjkibbnkklajaaGreatDoor

namespace Go.Proofs.YtdjkibbnkklajaaGreatDoor
open Go.ChangeShapes Go.WideShapes Go.ChangeAt Go.RowKit

theorem trodAll_below {H : Type} {enc : TypeId × Value → H} {P : Program} (hl : laidOutB P = true) {W W' : World} (hb : Below W.heap.size W W') : ∀ {ts : List TypeId} {vs : List Value} {ds : List (DataW H)} {ps : List MemPlace},
    ts.all (fun t => P.readableRec t && decide (t < P.types.size)) = true → DataW.TrodAll enc P W 0 (fun _ => true) true ts vs ds ps → (∀ x ∈ ps, x.block < W.heap.size) →
    DataW.TrodAll enc P W' 0 (fun b => decide (b < W.heap.size)) true ts vs ds ps
  | [], [], [], _, _, h, _ => h
  | [], _ :: _, _, _, _, h, _ => h.elim
  | [], [], _ :: _, _, _, h, _ => h.elim
  | _ :: _, [], _, _, _, h, _ => h.elim
  | _ :: _, _ :: _, [], _, _, h, _ => h.elim
  | t :: ts, v :: vs, d :: ds, _, ha, h, hlt => by
    obtain ⟨p, q, h1, h2, rfl⟩ := h
    simp only [List.all_cons, Bool.and_eq_true, decide_eq_true_eq] at ha
    exact ⟨p, q, Below.trod hl ha.1.1 ha.1.2 h1 hb (fun x hx => hlt x (List.mem_append_left _ hx)), trodAll_below hl hb ha.2 h2 (fun x hx => hlt x (List.mem_append_right _ hx)), rfl⟩

/-- What the row asks behind a law's call: it has returned true, and what was there is as it was. -/
theorem law_post {H : Type} {enc : TypeId × Value → H} {P : Program} {f : Func} {s : ChangeSpec} {W W' : World} {args : Array Value} {ds gs : List (DataW H)} {before : List MemPlace} {tb : TypeId}
    (hl : laidOutB P = true) (hp : f.params.toList.all (fun t => P.readableRec t && decide (t < P.types.size)) = true) (hv : varsRowed P s.vars = true) (hr : f.resultTypes = #[tb]) (htb : P.underlying tb = some .bool)
    (hW : DataW.Whole enc P f.params.toList s.vars false W args.toList ds gs before) (hf1 : (s.fn H (ds ++ gs)).results = [.lit (.bool true)]) (hf2 : (s.fn H (ds ++ gs)).args = ds) (hf3 : (s.fn H (ds ++ gs)).vars = gs)
    (hb : Below W.heap.size W W') : s.post enc P f false true false false W args (.bool true) W' := by
  have hlt := hW.lt
  have hW' := hW
  obtain ⟨p, q, hA, hV, rfl, hfz, hnd⟩ := hW
  refine ⟨ds, gs, p ++ q, [] ++ [], p, q, hW', ?_, ?_, ?_, hb.frame _, fun h => by cases h⟩
  · rw [hr, hf1]
    exact ⟨[], [], shut_bool htb true, rfl, rfl⟩
  · rw [hf2]
    exact trodAll_below hl hb hp hA (fun x hx => hlt x (List.mem_append_left _ hx))
  · rw [hf3]
    exact Below.trodVars hl hb hv hV
end Go.Proofs.YtdjkibbnkklajaaGreatDoor
