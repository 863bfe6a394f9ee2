/- The walks of the code that the claim reaches, and the plain laws: EraLaw, Law. No condition of ours. -/
import Derived.Test.YtemkhbmkaalgdaaGreatDoorM38
import Derived.Test.YtemkhbmkaalgdaaGreatDoorM35
import Derived.Test.YtemkhbmkaalgdaaGreatDoorRows
import Derived.WalkKit
import Derived.ProofKit
import Derived.OpenShut
import Derived.OpenVars
namespace Go.Proofs.YtemkhbmkaalgdaaGreatDoor
open Go.RowKit Go
mutual
theorem PE.size_leE : ∀ e : PE, e.size ≤ e.sizeG
  | .mk _ _ _ _ _ _ kids _ => by
    rw [PE.size, PE.sizeG]
    have := sizeE_leE kids
    omega
theorem sizeE_leE : ∀ l : List PE, sizeE l ≤ sizeGE l
  | [] => Nat.le_refl _
  | e :: l => by
    rw [sizeE, sizeGE]
    have h1 := PE.size_leE e
    have h2 := sizeE_leE l
    omega
end
structure DumpOk (M : Nat) (p : PP) : Prop where
  small : p.small M
  fits : p.all (PE.fits M)
  size : p.all fun e => e.size ≤ 1099511627776
  dump : p.all (dumpK 20000000)
  len : p.dump.length ≤ 20000000000
theorem PGood.dumpOk {S : List UInt8} {toks : List Tok} {nodes : List Nd} {p : PgS} (F : PGood S toks nodes p) (hs : S.length ≤ 1500) : DumpOk (S.length + 1) (p.pp toks) :=
  ⟨F.psmall, F.fits, PP.all_imp F.few F.few F.few fun e h _ _ => by have := PE.size_leE e; have := F.nd; have := F.count; omega, F.dumps hs, F.dump_len hs⟩
theorem PGood.eraseOk {S : List UInt8} {toks : List Tok} {nodes : List Nd} {p : PgS} (F : PGood S toks nodes p) (hs : S.length ≤ 1500) : DumpOk (S.length + 1) (p.pp toks).erase :=
  ⟨F.psmall.erase, PP.all_erase F.fits, PP.all_erase (F.dumpOk hs).size, PP.all_erase (F.dumps hs), F.erase_len hs⟩
theorem erased_params {p : PP} {d : DD} (h : d ∈ p.erase.defs) : d.res.clause = [] ∧ ∀ f ∈ d.params, f.clause = [] := by
  obtain ⟨c, _, rfl⟩ := List.mem_map.1 h
  refine ⟨rfl, fun f hf => ?_⟩
  obtain ⟨g, _, rfl⟩ := List.mem_map.1 hf
  rfl
set_option maxHeartbeats 4000000 in
set_option maxRecDepth 100000 in
theorem sameP_any {M : Nat} (p : PP) (D : DumpOk M p) (B : Nat) (ai : Option Addr) (ci : Nat) (ad : Option Addr) (cd : Nat) (ai2 : Option Addr) (ci2 : Nat) (ad2 : Option Addr) (cd2 : Nat) (w : World)
    (h : PAtA (fun b => b < B) w (.slice ai p.imports.length ci) (.slice ad p.defs.length cd) p) (h2 : PAtA (fun b => b < B) w (.slice ai2 p.imports.length ci2) (.slice ad2 p.defs.length cd2) p) (hB : B ≤ w.heap.size) :
    Calls Tryz.prog 15 #[.agg #[.slice ai p.imports.length ci, .slice ad p.defs.length cd], .agg #[.slice ai2 p.imports.length ci2, .slice ad2 p.defs.length cd2]] w fun e w' => e = .returned (.bool true) ∧ Below w.heap.size w w' := by
  have hD := fun ai ci ad cd W (hW : Below w.heap.size w W) (h : PAtA (fun b => b < B) w (.slice ai p.imports.length ci) (.slice ad p.defs.length cd) p) => adump_any p D.small D.fits D.size D.dump D.len B ai ci ad cd W (h.frame (Alk.ofB hW fun b hb => by omega)) (Nat.le_trans hB hW.size)
  obtain ⟨XD, hXD, eXD⟩ := bytes_of p.dump
  unfold StrPost at hD
  rw [eXD] at hD
  have HD := Lib.hid hD
  have HP := Lib.hid (And.intro h h2)
  have hbb := (below_new w (.cells #[.slice ai p.imports.length ci, .slice ad p.defs.length cd] 31)).alloc (by simp) (.cells #[.slice ai2 p.imports.length ci2, .slice ad2 p.defs.length cd2] 31)
  have g0 := (Lib.alloc_old _ (.cells #[.slice ai2 p.imports.length ci2, .slice ad2 p.defs.length cd2] 31) w.heap.size (by simp)).trans (heap_alloc_new w (.cells #[.slice ai p.imports.length ci, .slice ad p.defs.length cd] 31))
  have g1 := heap_alloc_new (w.alloc (.cells #[.slice ai p.imports.length ci, .slice ad p.defs.length cd] 31)) (.cells #[.slice ai2 p.imports.length ci2, .slice ad2 p.defs.length cd2] 31)
  rw [World.size_alloc] at g1
  clear hD h h2 hXD eXD D
  go_enter Tryz.func15, Tryz.ntmps15
  go_upto_region 1 with fail
  generalize (w.alloc _).alloc _ = w2 at hbb g0 g1 ⊢
  have hz2 := hbb.size
  have HS : Hid (∀ W, Below w2.heap.size w2 W → (W.cell? ⟨w.heap.size, 0, none⟩ = some (.slice ai p.imports.length ci) ∧ W.cell? ⟨w.heap.size, 1, none⟩ = some (.slice ad p.defs.length cd) ∧ W.cell? ⟨w.heap.size + 1, 0, none⟩ = some (.slice ai2 p.imports.length ci2) ∧ W.cell? ⟨w.heap.size + 1, 1, none⟩ = some (.slice ad2 p.defs.length cd2))) := Lib.hid fun W hW => by
    obtain ⟨a0, a1⟩ := prog_cells g0
    obtain ⟨b0, b1⟩ := prog_cells g1
    exact ⟨cell_later hW a0, cell_later hW a1, cell_later hW b0, cell_later hW b1⟩
  obtain ⟨a0, a1, b0, b1⟩ := HS.out w2 (Below.refl _ _)
  go_region_held3 (fun w' => w'.cell? ⟨w.heap.size, 0, none⟩ = some (.slice ai p.imports.length ci) ∧ w'.cell? ⟨w.heap.size, 1, none⟩ = some (.slice ad p.defs.length cd) ∧ w'.cell? ⟨w.heap.size + 1, 0, none⟩ = some (.slice ai2 p.imports.length ci2) ∧ w'.cell? ⟨w.heap.size + 1, 1, none⟩ = some (.slice ad2 p.defs.length cd2))
    (first | (with_reducible exact p3) | (go_keep; done))
    (first | (go_at_call 18; refine (HD.out _ _ _ _ _ (hbb.trans (hq3.mono hz2)) (by first | exact HP.out.1 | exact HP.out.2)).mono ?_; rintro e w4 ⟨rfl, hb4⟩; have hq4 := hq3.trans (hb4.mono hq3.size); have p3 := HS.out _ hq4) | (go_at_call 18; refine (HD.out _ _ _ _ _ hbb.drew (by first | exact HP.out.1 | exact HP.out.2)).mono ?_; rintro e w3 ⟨rfl, hb3⟩; have hq3 : Below w2.heap.size w2 w3 := (Below.refl w2.heap.size w2).drew.trans hb3; have p3 := HS.out _ hq3))
  all_goals
    go_wp2
    go_ret
    exact ⟨rfl, hbb.trans (hq4.mono hz2)⟩
set_option maxHeartbeats 2000000 in
set_option maxRecDepth 100000 in
theorem era_big (s : ByteArray) (w : World) (hs : s.size ≤ maxLen) (h : 1500 < s.size) :
    Calls Tryz.prog 4 #[.string s] w fun e w' => e = .returned (.bool true) ∧ Below w.heap.size w w' := by
  unfold maxLen at hs
  go_enter Tryz.func4, Tryz.ntmps4
  go_wp2_with (go_at_call 6; refine (anchor_any _).mono ?_; rintro e w1 ⟨rfl, hb1⟩)
  go_ret
  exact ⟨rfl, hb1⟩
set_option maxHeartbeats 2000000 in
set_option maxRecDepth 100000 in
theorem era_bad (s : ByteArray) (w : World) (hs : s.size ≤ 1500) (c a : Nat) (h : progF s.data.toList 100 = .bad c a) :
    Calls Tryz.prog 4 #[.string s] w fun e w' => e = .returned (.bool true) ∧ Below w.heap.size w w' := by
  have hc := progF_bad h
  have hcI : ((c : Int) == 0) = false := beq_eq_false_iff_ne.2 (by omega)
  have HF := Lib.hid (fun W => parse_any s 100 W (by omega) (by omega) (by omega))
  rw [h] at HF
  have hsI : ¬ ((1500 : Int) < (s.size : Int)) := by omega
  clear h hc
  go_enter Tryz.func4, Tryz.ntmps4
  go_upto_region 6 with (first | (go_at_call 6; refine (anchor_any _).mono ?_; rintro e w1 ⟨rfl, hb1⟩) | (go_at_call 10; refine (HF.out _).mono ?_; rintro e w2 ⟨hb2, rfl⟩))
  have hb3 := (below_new w2 (.cells #[.slice none 0 0, .slice none 0 0] 25)).alloc (by simp) (.cells #[.int .i64 c, .int .i64 a] 44)
  have e2 := heap_alloc_new (w2.alloc (.cells #[.slice none 0 0, .slice none 0 0] 25)) (.cells #[.int .i64 c, .int .i64 a] 44)
  rw [World.size_alloc] at e2
  have hbw := (hb1.trans (hb2.mono hb1.size)).trans (hb3.mono (hb1.trans (hb2.mono hb1.size)).size)
  clear hb1 hb2 hb3 HF
  generalize (w2.alloc _).alloc _ = w3 at e2 hbw ⊢
  obtain ⟨f0, f1, -⟩ := fault_cells e2
  go_wp2
  go_ret
  exact ⟨rfl, hbw⟩
set_option maxHeartbeats 8000000 in
set_option maxRecDepth 100000 in
theorem era_good (s : ByteArray) (w : World) (hs : s.size ≤ 1500) (toks : List Tok) (nodes : List Nd) (h : progF s.data.toList 100 = .good toks nodes) :
    Calls Tryz.prog 4 #[.string s] w fun e w' => e = .returned (.bool true) ∧ Below w.heap.size w w' := by
  obtain ⟨p, F⟩ := prog_good (by omega) h
  have HF := Lib.hid (fun W => parse_any s 100 W (by omega) (by omega) (by omega))
  rw [h] at HF
  have hs' : s.data.toList.length ≤ 1500 := by rw [size_list]; exact hs
  have HO := Lib.hid (fun B at_ ct an cn W hT hB => of_yes B at_ ct an cn s toks nodes p W hT hB F)
  have D1 := F.dumpOk hs'
  have D2 := F.eraseOk hs'
  generalize hpp : p.pp toks = pp at HO D1 D2
  have HE1 := Lib.hid (erase_any pp D1.small.ifew D1.small.dfew fun d hd => (D1.small.defs d hd).few)
  have HE2 := Lib.hid (erase_any pp.erase D2.small.ifew D2.small.dfew fun d hd => (D2.small.defs d hd).few)
  rw [PP.erase_erase] at HE2
  have HS1 := Lib.hid (sameP_any pp D1)
  have HS2 := Lib.hid (sameP_any pp.erase D2)
  have hdl : pp.erase.defs.length = pp.defs.length := List.length_map _
  have hd64 := D2.small.dfew
  have HD2 := Lib.hid D2.small
  have HDL := Lib.hid hdl
  have HER := Lib.hid (fun d hd => erased_params (p := pp) (d := d) hd)
  generalize pp.erase = qq at HE1 HE2 HS2 HDL HER hd64 HD2
  have hsI : ¬ ((1500 : Int) < (s.size : Int)) := by omega
  clear h F hpp hdl D1 D2
  go_enter Tryz.func4, Tryz.ntmps4
  go_upto_region 6 with (first | (go_at_call 6; refine (anchor_any _).mono ?_; rintro e w1 ⟨rfl, hb1⟩) | (go_at_call 10; refine (HF.out _).mono ?_; rintro e w2 ⟨hb2, at_, ct, an, cn, rfl, hty⟩))
  have hb3 := (below_new w2 (.cells #[.slice at_ toks.length ct, .slice an nodes.length cn] 25)).alloc (by simp) (.cells #[.int .i64 0, .int .i64 0] 44)
  have e1 := (Lib.alloc_old (w2.alloc (.cells #[.slice at_ toks.length ct, .slice an nodes.length cn] 25)) (.cells #[.int .i64 0, .int .i64 0] 44) w2.heap.size (by simp)).trans (heap_alloc_new w2 (.cells #[.slice at_ toks.length ct, .slice an nodes.length cn] 25))
  have e2 := heap_alloc_new (w2.alloc (.cells #[.slice at_ toks.length ct, .slice an nodes.length cn] 25)) (.cells #[.int .i64 0, .int .i64 0] 44)
  rw [World.size_alloc] at e2
  have hbw := (hb1.trans (hb2.mono hb1.size)).trans (hb3.mono (hb1.trans (hb2.mono hb1.size)).size)
  have hT := hty.at.below hb3
  have hs3 : w2.heap.size + 1 < ((w2.alloc (.cells #[.slice at_ toks.length ct, .slice an nodes.length cn] 25)).alloc (.cells #[.int .i64 0, .int .i64 0] 44)).heap.size := by simp
  clear hb1 hb2 hb3 HF hty
  generalize (w2.alloc _).alloc _ = w3 at e1 e2 hbw hT hs3 ⊢
  generalize w2.heap.size = tb at e1 e2 hT hs3 ⊢
  obtain ⟨c0, c1⟩ := tree_cells e1
  obtain ⟨f0, f1, -⟩ := fault_cells e2
  have HOx := Lib.hid (HO.out tb at_ ct an cn w3 hT (by omega))
  clear e1 e2 HO
  go_upto_region 11 with (go_at_call 8; refine HOx.out.mono ?_; rintro e w4 ⟨ai, ci, ad, cd, rfl, hn4, hp4, hb4⟩)
  have hbw4 := hbw.trans (hb4.mono hbw.size)
  have hb5 := hbw4.alloc hbw4.size (.cells #[.slice ai pp.imports.length ci, .slice ad pp.defs.length cd] 31)
  have g5 := heap_alloc_new w4 (.cells #[.slice ai pp.imports.length ci, .slice ad pp.defs.length cd] 31)
  have hp5 : PAtA (fun b => b < w4.heap.size) (w4.alloc (.cells #[.slice ai pp.imports.length ci, .slice ad pp.defs.length cd] 31)) (.slice ai pp.imports.length ci) (.slice ad pp.defs.length cd) pp := (hp4.imp (Q := fun b => b < w4.heap.size) fun b _ hl => hl).frame ⟨by simp, fun b _ hl => Lib.alloc_old _ _ _ hl⟩
  have hs5 : w4.heap.size < (w4.alloc (.cells #[.slice ai pp.imports.length ci, .slice ad pp.defs.length cd] 31)).heap.size := by simp
  clear c0 c1 f0 f1 HOx hT hp4 hb4 hbw4 hs3 hbw
  generalize w4.alloc _ = w5 at hb5 g5 hp5 hs5 ⊢
  generalize w4.heap.size = pb at g5 hp5 hs5 ⊢
  have HN := Lib.hid hn4
  have HP5 := Lib.hid hp5
  obtain ⟨a0, a1⟩ := prog_cells g5
  have HEx := Lib.hid (HE1.out pb ai ci ad cd w5 hp5 (by omega) hn4)
  clear hn4 hp5
  go_upto_region 12 with (go_at_call 14; refine HEx.out.mono ?_; rintro e w6 ⟨ai2, ci2, ad2, cd2, rfl, hn6, hp6, hb6⟩)
  have hb7 := hb6.alloc hb6.size (.cells #[.slice ai2 qq.imports.length ci2, .slice ad2 qq.defs.length cd2] 31)
  have g7 := heap_alloc_new w6 (.cells #[.slice ai2 qq.imports.length ci2, .slice ad2 qq.defs.length cd2] 31)
  have hp7 : PAtA (fun b => b < w6.heap.size) (w6.alloc (.cells #[.slice ai2 qq.imports.length ci2, .slice ad2 qq.defs.length cd2] 31)) (.slice ai2 qq.imports.length ci2) (.slice ad2 qq.defs.length cd2) qq := hp6.frame ⟨by simp, fun b _ hl => Lib.alloc_old _ _ _ hl⟩
  have hs7 : w6.heap.size < (w6.alloc (.cells #[.slice ai2 qq.imports.length ci2, .slice ad2 qq.defs.length cd2] 31)).heap.size := by simp
  have g57 := (hb7.block pb hs5).trans g5
  have hp57 := HP5.out.frame (Alk.of hb7)
  have hbw7 := hb5.trans (hb7.mono hb5.size)
  have hpr7 : pb < w6.heap.size := Nat.lt_of_lt_of_le hs5 hb6.size
  clear a0 a1 HEx hp6 hb6 hb7 g5 HP5 hb5
  generalize w6.alloc _ = w7 at g7 hp7 hs7 g57 hp57 hbw7 ⊢
  generalize w6.heap.size = rb at g7 hp7 hs7 hpr7 ⊢
  obtain ⟨q0, q1⟩ := prog_cells g7
  obtain ⟨ao', cc', hv, hcap, hform⟩ := hp7.2.form
  simp only [Value.slice.injEq] at hv
  obtain ⟨rfl, -, rfl⟩ := hv
  have HFq := Lib.hid hform
  have HPQ := Lib.hid (And.intro hp57 hp7)
  have HG := Lib.hid (And.intro g57 g7)
  have HN6 := Lib.hid hn6
  clear hform hp57 hp7 g57 g7 hn6
  go_wp2
  clear q0 q1
  go_loopw [37] (fun q wr => ∃ j : Nat, j ≤ qq.defs.length ∧ q = .int .i64 j ∧ Below w7.heap.size w7 wr) (fun q _ => qq.defs.length - (intOf q).toNat)
  case atStart => exact ⟨0, Nat.zero_le _, rfl, Below.refl _ _⟩
  case round =>
    obtain ⟨j, hj, rfl, hbl⟩ := hrel
    have hzr := hbl.size
    by_cases hlt : j < qq.defs.length
    ·
      obtain ⟨b, off, rfl, hbB, hbw, hkid⟩ := HFq.out (by omega)
      obtain ⟨⟨pv, cv, bm, bk⟩, ⟨hpr, hcr, hbe⟩, hc⟩ := hkid j hlt
      have hjI : (j : Int) < (qq.defs.length : Int) := by omega
      have hno := HER.out _ (List.getElem_mem hlt)
      have hp8 := (HD2.out.defs _ (List.getElem_mem hlt)).few
      generalize qq.defs[j] = d at hpr hcr hbe hc hno hp8
      obtain ⟨ap, cp, rfl⟩ := hpr.slice
      obtain ⟨ac, cc, rfl⟩ := hcr.slice
      obtain ⟨am, wn, cm, ae, ce, rfl, rfl⟩ := EAt.slX hbe
      have hz0 : d.res.clause.length = 0 := by rw [hno.1]; rfl
      have HNO := Lib.hid hno.2
      have hcl : ∀ (c : Nat) (u : Value), w7.cell? ⟨b, c, none⟩ = some u → wr.cell? ⟨b, c, none⟩ = some u := fun c u hu => (hbl.cell (p := ⟨b, c, none⟩) hbw).trans hu
      have y0 := hcl _ _ (show w7.cell? ⟨b, off + j * 15, none⟩ = some (.bool d.pub) from hc 0 _ rfl)
      have y1 := hcl _ _ (show w7.cell? ⟨b, off + j * 15 + 1, none⟩ = some (.string ⟨d.res.name.toArray⟩) from hc 1 _ rfl)
      have y2 := hcl _ _ (show w7.cell? ⟨b, off + j * 15 + 2, none⟩ = some (.slice ap d.params.length cp) from hc 2 _ rfl)
      have y3 := hcl _ _ (show w7.cell? ⟨b, off + j * 15 + 3, none⟩ = some (.int .i64 d.res.base) from hc 3 _ rfl)
      have y4 := hcl _ _ (show w7.cell? ⟨b, off + j * 15 + 4, none⟩ = some (.slice ac 0 cc) from hc 4 _ (by rw [hz0]; rfl))
      have y5 := hcl _ _ (show w7.cell? ⟨b, off + j * 15 + 5, none⟩ = some (.int .i64 d.body.op) from hc 5 _ rfl)
      have y6 := hcl _ _ (show w7.cell? ⟨b, off + j * 15 + 6, none⟩ = some (.string ⟨d.body.name.toArray⟩) from hc 6 _ rfl)
      have y7 := hcl _ _ (show w7.cell? ⟨b, off + j * 15 + 7, none⟩ = some (.string ⟨d.body.module.toArray⟩) from hc 7 _ rfl)
      have y8 := hcl _ _ (show w7.cell? ⟨b, off + j * 15 + 8, none⟩ = some (.bool (decide (d.body.num < 0))) from hc 8 _ rfl)
      have y9 := hcl _ _ (show w7.cell? ⟨b, off + j * 15 + 9, none⟩ = some (.slice am wn cm) from hc 9 _ rfl)
      have y10 := hcl _ _ (show w7.cell? ⟨b, off + j * 15 + 10, none⟩ = some (.bool d.body.yes) from hc 10 _ rfl)
      have y11 := hcl _ _ (show w7.cell? ⟨b, off + j * 15 + 11, none⟩ = some (.slice ae d.body.kids.length ce) from hc 11 _ rfl)
      have y12 := hcl _ _ (show w7.cell? ⟨b, off + j * 15 + 12, none⟩ = some (.int .i64 d.body.at_) from hc 12 _ rfl)
      have y13 := hcl _ _ (show w7.cell? ⟨b, off + j * 15 + 13, none⟩ = some (.int .i64 d.res.at_) from hc 13 _ rfl)
      have y14 := hcl _ _ (show w7.cell? ⟨b, off + j * 15 + 14, none⟩ = some (.int .i64 d.res.bare) from hc 14 _ rfl)
      have T0 := heap_alloc_new wr (.cells #[.bool d.pub, .string ⟨d.res.name.toArray⟩, .slice ap d.params.length cp, .int .i64 d.res.base, .slice ac 0 cc, .int .i64 d.body.op, .string ⟨d.body.name.toArray⟩, .string ⟨d.body.module.toArray⟩, .bool (decide (d.body.num < 0)), .slice am wn cm, .bool d.body.yes, .slice ae d.body.kids.length ce, .int .i64 d.body.at_, .int .i64 d.res.at_, .int .i64 d.res.bare] 54)
      have hb0 := below_new wr (.cells #[.bool d.pub, .string ⟨d.res.name.toArray⟩, .slice ap d.params.length cp, .int .i64 d.res.base, .slice ac 0 cc, .int .i64 d.body.op, .string ⟨d.body.name.toArray⟩, .string ⟨d.body.module.toArray⟩, .bool (decide (d.body.num < 0)), .slice am wn cm, .bool d.body.yes, .slice ae d.body.kids.length ce, .int .i64 d.body.at_, .int .i64 d.res.at_, .int .i64 d.res.bare] 54)
      obtain ⟨ap', cp', hv3, hcap3, hform3⟩ := hpr.form
      simp only [Value.slice.injEq] at hv3
      obtain ⟨rfl, -, rfl⟩ := hv3
      have HF3 := Lib.hid hform3
      clear hkid hc hcl hpr hcr hform3 hno hz0 hbe
      go_upto_region 15 with fail
      clear y0 y1 y2 y3 y4 y5 y6 y7 y8 y9 y10 y11 y12 y13 y14
      have hb1 := hbl.trans (hb0.mono hzr)
      have hDw : w7.heap.size ≤ wr.heap.size := hzr
      clear hbl hb0
      generalize hD : wr.heap.size = D at T0 hDw ⊢
      generalize wr.alloc _ = wa at T0 hb1 ⊢
      clear hD hzr
      obtain ⟨⟨d0, d1, d2, d3, d4⟩, _, _, dz⟩ := def_cells2 T0
      go_wp2
      clear d0 d1 d2 d3 d4 dz
      go_loopw [44] (fun q wr => ∃ k : Nat, k ≤ d.params.length ∧ q = .int .i64 k ∧ Below w7.heap.size w7 wr ∧ wr.heap[D]? = some (.cells #[.bool d.pub, .string ⟨d.res.name.toArray⟩, .slice ap d.params.length cp, .int .i64 d.res.base, .slice ac 0 cc, .int .i64 d.body.op, .string ⟨d.body.name.toArray⟩, .string ⟨d.body.module.toArray⟩, .bool (decide (d.body.num < 0)), .slice am wn cm, .bool d.body.yes, .slice ae d.body.kids.length ce, .int .i64 d.body.at_, .int .i64 d.res.at_, .int .i64 d.res.bare] 54 (0, 0))) (fun q _ => d.params.length - (intOf q).toNat)
      case atStart => exact ⟨0, Nat.zero_le _, rfl, hb1, T0⟩
      case round =>
        clear hb1 T0
        obtain ⟨k, hk, rfl, hbl, hDx⟩ := hrel
        have hzx := hbl.size
        have hDl := (Array.getElem?_eq_some_iff.1 hDx).1
        by_cases hlt3 : k < d.params.length
        · obtain ⟨b3, o3, rfl, hb3B, hb3w, hkid3⟩ := HF3.out (by omega)
          obtain ⟨cv3, hcr3, hc3⟩ := hkid3 k hlt3
          have hkI : (k : Int) < (d.params.length : Int) := by omega
          have hn3 := HNO.out _ (List.getElem_mem hlt3)
          generalize d.params[k] = f at hcr3 hc3 hn3
          obtain ⟨ac3, cc3, rfl⟩ := RowK.slice (show RowK (EK XA) (fun b => b < rb) w7 cv3 f.clause from hcr3)
          have hz3 : f.clause.length = 0 := by rw [hn3]; rfl
          have hcl : ∀ (c : Nat) (u : Value), w7.cell? ⟨b3, c, none⟩ = some u → wr.cell? ⟨b3, c, none⟩ = some u := fun c u hu => (hbl.cell (p := ⟨b3, c, none⟩) hb3w).trans hu
          have v0 := hcl _ _ (show w7.cell? ⟨b3, o3 + k * 5, none⟩ = some (.string ⟨f.name.toArray⟩) from hc3 0 _ rfl)
          have v1 := hcl _ _ (show w7.cell? ⟨b3, o3 + k * 5 + 1, none⟩ = some (.int .i64 f.base) from hc3 1 _ rfl)
          have v2 := hcl _ _ (show w7.cell? ⟨b3, o3 + k * 5 + 2, none⟩ = some (.slice ac3 0 cc3) from hc3 2 _ (by rw [hz3]; rfl))
          have v3 := hcl _ _ (show w7.cell? ⟨b3, o3 + k * 5 + 3, none⟩ = some (.int .i64 f.at_) from hc3 3 _ rfl)
          have v4 := hcl _ _ (show w7.cell? ⟨b3, o3 + k * 5 + 4, none⟩ = some (.int .i64 f.bare) from hc3 4 _ rfl)
          have U0 := heap_alloc_new wr (.cells #[.string ⟨f.name.toArray⟩, .int .i64 f.base, .slice ac3 0 cc3, .int .i64 f.at_, .int .i64 f.bare] 56)
          have ha0 := below_new wr (.cells #[.string ⟨f.name.toArray⟩, .int .i64 f.base, .slice ac3 0 cc3, .int .i64 f.at_, .int .i64 f.bare] 56)
          clear hkid3 hc3 hcl hcr3 hn3 hz3
          go_upto_region 18 with fail
          clear v0 v1 v2 v3 v4
          have hbl2 := hbl.trans (ha0.mono hzx)
          have hDx2 := (ha0.block D hDl).trans hDx
          clear hbl ha0 hDx
          generalize wr.alloc _ = wy at U0 hbl2 hDx2 ⊢
          obtain ⟨-, -, p2, -, -, pz⟩ := par_cells U0
          go_wp2
          go_roundw
          case rel => exact ⟨k + 1, by omega, by go_num, hbl2, hDx2⟩
          case measure => simp [intOf]; omega
        · obtain rfl : k = d.params.length := by omega
          have hkI : decide ((d.params.length : Int) < (d.params.length : Int)) = false := decide_eq_false (by omega)
          obtain ⟨⟨d0, d1, d2, d3, d4⟩, _, _, dz⟩ := def_cells2 hDx
          go_wp2
          go_roundw
          case rel => exact ⟨j + 1, by omega, by go_num, hbl⟩
          case measure => simp [intOf]; omega
    ·
      obtain rfl : j = qq.defs.length := by omega
      have hjI : decide ((qq.defs.length : Int) < (qq.defs.length : Int)) = false := decide_eq_false (by omega)
      have HS : Hid (∀ w', Below wr.heap.size wr w' → (w'.cell? ⟨pb, 0, none⟩ = some (.slice ai pp.imports.length ci) ∧ w'.cell? ⟨pb, 1, none⟩ = some (.slice ad pp.defs.length cd) ∧ w'.cell? ⟨rb, 0, none⟩ = some (.slice ai2 qq.imports.length ci2) ∧ w'.cell? ⟨rb, 1, none⟩ = some (.slice ad2 qq.defs.length cd2))) := Lib.hid fun W hW => by
        obtain ⟨a0, a1⟩ := prog_cells HG.out.1
        obtain ⟨b0, b1⟩ := prog_cells HG.out.2
        have hW7 := hbl.trans (hW.mono hzr)
        exact ⟨cell_later hW7 a0, cell_later hW7 a1, cell_later hW7 b0, cell_later hW7 b1⟩
      have HPP := Lib.hid (fun W (hW : Below wr.heap.size wr W) => And.intro (HPQ.out.1.frame (Alk.of (hbl.trans (hW.mono hzr)))) (HPQ.out.2.frame (Alk.of (hbl.trans (hW.mono hzr)))))
      have hrbw : rb < wr.heap.size := Nat.lt_of_lt_of_le hs7 hzr
      have hpbw : pb < wr.heap.size := by omega
      have hdq : ((qq.defs.length : Int) == (pp.defs.length : Int)) = true := by rw [HDL.out]; exact beq_self_eq_true _
      obtain ⟨a0, a1, b0, b1⟩ := HS.out wr (Below.refl _ _)
      go_upto_region 24 with fail
      go_region_held3 (fun w' => w'.cell? ⟨pb, 0, none⟩ = some (.slice ai pp.imports.length ci) ∧ w'.cell? ⟨pb, 1, none⟩ = some (.slice ad pp.defs.length cd) ∧ w'.cell? ⟨rb, 0, none⟩ = some (.slice ai2 qq.imports.length ci2) ∧ w'.cell? ⟨rb, 1, none⟩ = some (.slice ad2 qq.defs.length cd2))
        (first | (with_reducible exact p3) | (go_keep; done))
        (first
          | (go_at_call 14; refine (HE2.out rb _ _ _ _ _ (HPP.out _ (Below.refl _ _).drew).2 (Nat.le_of_lt hrbw) HN6.out).mono ?_; rintro e wA ⟨ai3, ci3, ad3, cd3, rfl, hn3, hp3, hbA⟩; have hqA : Below wr.heap.size wr wA := (Below.refl wr.heap.size wr).drew.trans hbA; have p3 := HS.out _ hqA)
          | (go_at_call 15; refine (HS1.out pb _ _ _ _ _ _ _ _ _ (HPP.out _ hqB).1 (HPP.out _ hqB).1 (by have := hqB.size; omega)).mono ?_; rintro e wC ⟨rfl, hbC⟩; have hqC := hqB.trans (hbC.mono hqB.size); have p3 := HS.out _ hqC)
          | (go_at_call 15; refine (HS2.out wA.heap.size _ _ _ _ _ _ _ _ _ ((HPP.out _ hqA).2.imp fun b hb hl => hl) hp3 (Nat.le_refl _)).mono ?_; rintro e wB ⟨rfl, hbB⟩; have hqB := hqA.trans (hbB.mono hqA.size); have p3 := HS.out _ hqB))
      clear a0 a1 b0 b1 p3
      go_wp2
      go_ret
      exact ⟨rfl, hbw7.trans ((hbl.trans (hqC.mono hzr)).mono hbw7.size)⟩
theorem era_any (s : ByteArray) (w : World) (hs : s.size ≤ maxLen) :
    Calls Tryz.prog 4 #[.string s] w fun e w' => e = .returned (.bool true) ∧ Below w.heap.size w w' := by
  by_cases h : s.size ≤ 1500
  · cases hf : progF s.data.toList 100 with
    | bad c a => exact era_bad s w h c a hf
    | good toks nodes => exact era_good s w h toks nodes hf
  · exact era_big s w hs (by omega)
end Go.Proofs.YtemkhbmkaalgdaaGreatDoor

namespace Go.Proofs.YtemkhbmkaalgdaaGreatDoor
open Go.ChangeShapes Go.WideShapes Go.ChangeAt Go.RowKit
theorem trodAll_below {H : Type} {enc : TypeId × Value → H} {P : Program} (hl : laidOutB P = true) {W W' : World} (hb : Below W.heap.size W W') : ∀ {ts : List TypeId} {vs : List Value} {ds : List (DataW H)} {ps : List MemPlace},
    ts.all (fun t => P.readableRec t && decide (t < P.types.size)) = true → DataW.TrodAll enc P W 0 (fun _ => true) true ts vs ds ps → (∀ x ∈ ps, x.block < W.heap.size) →
    DataW.TrodAll enc P W' 0 (fun b => decide (b < W.heap.size)) true ts vs ds ps
  | [], [], [], _, _, h, _ => h
  | [], _ :: _, _, _, _, h, _ => h.elim
  | [], [], _ :: _, _, _, h, _ => h.elim
  | _ :: _, [], _, _, _, h, _ => h.elim
  | _ :: _, _ :: _, [], _, _, h, _ => h.elim
  | t :: ts, v :: vs, d :: ds, _, ha, h, hlt => by
    obtain ⟨p, q, h1, h2, rfl⟩ := h
    simp only [List.all_cons, Bool.and_eq_true, decide_eq_true_eq] at ha
    exact ⟨p, q, Below.trod hl ha.1.1 ha.1.2 h1 hb (fun x hx => hlt x (List.mem_append_left _ hx)), trodAll_below hl hb ha.2 h2 (fun x hx => hlt x (List.mem_append_right _ hx)), rfl⟩
theorem law_post {H : Type} {enc : TypeId × Value → H} {P : Program} {f : Func} {s : ChangeSpec} {W W' : World} {args : Array Value} {ds gs : List (DataW H)} {before : List MemPlace} {tb : TypeId}
    (hl : laidOutB P = true) (hp : f.params.toList.all (fun t => P.readableRec t && decide (t < P.types.size)) = true) (hv : varsRowed P s.vars = true) (hr : f.resultTypes = #[tb]) (htb : P.underlying tb = some .bool)
    (hW : DataW.Whole enc P f.params.toList s.vars false W args.toList ds gs before) (hf1 : (s.fn H (ds ++ gs)).results = [.lit (.bool true)]) (hf2 : (s.fn H (ds ++ gs)).args = ds) (hf3 : (s.fn H (ds ++ gs)).vars = gs)
    (hb : Below W.heap.size W W') : s.post enc P f false true false false W args (.bool true) W' := by
  have hlt := hW.lt
  have hW' := hW
  obtain ⟨p, q, hA, hV, rfl, hfz, hnd⟩ := hW
  refine ⟨ds, gs, p ++ q, [] ++ [], p, q, hW', ?_, ?_, ?_, hb.frame _, fun h => by cases h⟩
  · rw [hr, hf1]
    exact ⟨[], [], shut_bool htb true, rfl, rfl⟩
  · rw [hf2]
    exact trodAll_below hl hb hp hA (fun x hx => hlt x (List.mem_append_left _ hx))
  · rw [hf3]
    exact Below.trodVars hl hb hv hV
end Go.Proofs.YtemkhbmkaalgdaaGreatDoor
