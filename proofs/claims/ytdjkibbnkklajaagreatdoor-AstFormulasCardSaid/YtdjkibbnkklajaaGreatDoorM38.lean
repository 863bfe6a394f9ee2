/- The walks of the code that the claim reaches, and the plain laws: FExprW11, RatsW, AstW2. No condition of ours. -/
import Derived.Test.YtdjkibbnkklajaaGreatDoorM30
import Derived.Test.YtdjkibbnkklajaaGreatDoorM33
import Derived.Test.YtdjkibbnkklajaaGreatDoorM34
import Derived.Test.YtdjkibbnkklajaaGreatDoorM35
import Derived.Test.YtdjkibbnkklajaaGreatDoorM36
import Derived.Test.YtdjkibbnkklajaaGreatDoorM37
import Derived.Test.YtdjkibbnkklajaaGreatDoorM16
import Derived.Test.YtdjkibbnkklajaaGreatDoorM31
namespace Go.Proofs.YtdjkibbnkklajaaGreatDoor
open Go.RowKit Go

def REnv.freads (E : REnv) (e : CE) (u : Nat) : Prop := ∀ (i : Nat) (W : World), Rep E.nodes i u e.pt → E.At W → Calls Tryz.prog 7 #[.agg #[E.tv, E.nv], .int .i64 i] W (EPost XR (e.pe E.toks u) W)

theorem fleaf_peek (E : REnv) {k u : Nat} (h : E.nodes[k]? = some ⟨19, (u : Nat), []⟩) (hu : u < E.toks.length) (W : World) (hT : TreeAt E.B W (.agg #[E.tv, E.nv]) E.toks E.nodes) (hB : E.B ≤ W.heap.size) :
    Calls Tryz.prog 20 #[.agg #[E.tv, E.nv], .int .i64 k] W fun e w' => e = .returned (tokVal (peekF E.toks u)) ∧ Below W.heap.size W w' := by
  have hp := tok_peek hu
  rw [List.getElem?_eq_getElem hu] at hp
  injection hp with hp
  rw [← hp]
  exact fleaf_yes E.B E.tv E.nv E.toks E.nodes k u W hT hB h hu
theorem fleaf_text (E : REnv) {k u : Nat} {l : List UInt8} (h : E.nodes[k]? = some ⟨19, (u : Nat), []⟩) (hu : u < E.toks.length) (hl : textAt E.toks u = l) (W : World) (hT : TreeAt E.B W (.agg #[E.tv, E.nv]) E.toks E.nodes) (hB : E.B ≤ W.heap.size) :
    Calls Tryz.prog 20 #[.agg #[E.tv, E.nv], .int .i64 k] W fun e w' => e = .returned (tokVal ⟨(peekF E.toks u).kind, (peekF E.toks u).lead, l, (peekF E.toks u).place⟩) ∧ Below W.heap.size W w' := by
  subst hl
  exact fleaf_peek E h hu W hT hB

theorem fmade_items (E : REnv) (its : List (Option CE)) (ks : List Int) (u i : Nat) (k : Int) (hn : E.nodes[i]? = some ⟨k, -1, ks⟩) (hr : RepL E.nodes ks u (its.map itPT)) (hlen : ks.length ≤ 1000000000) (hsub : ∀ p ∈ subsF its u, E.freads p.1 p.2)
    (op at_ : Nat) (W : World) (hT : TreeAt E.B W (.agg #[E.tv, E.nv]) E.toks E.nodes) (hB : E.B ≤ W.heap.size) :
    Calls Tryz.prog 21 #[.agg #[E.tv, E.nv], .int .i64 i, .int .i64 op, .int .i64 at_] W (EPost XR (.mk op [] [] 0 [] false ((subsF its u).map fun p => p.1.pe E.toks p.2) at_) W) := by
  obtain ⟨hi, hni⟩ := List.getElem?_eq_some_iff.1 hn
  obtain ⟨p1, p2⟩ := parts_items its ks u hr
  refine fmade_any E.B E.tv E.nv E.toks E.nodes i op at_ W hT hB hi (by rw [hni]; exact repL_ok hr) (by rw [hni]; exact hlen) _ (by rw [hni]; simp [p1]) ?_
  rw [hni]
  intro j h1 h2 W' hT' hB'
  have h3 : j < (subsF its u).length := by simpa using h1
  have hrep := p2 j h2 h3
  have hx := hsub _ (List.getElem_mem h3)
  have hk := rep_ok hrep
  simp only [List.getElem_map]
  obtain ⟨m, hm⟩ : ∃ m : Nat, (partsF E.nodes ks)[j] = (m : Int) := ⟨((partsF E.nodes ks)[j]).toNat, by omega⟩
  rw [hm] at hrep ⊢
  exact hx m W' hrep ⟨hT', hB'⟩

theorem fsubs_ok {E : REnv} : ∀ (l : List CE) (u : Nat), argsOk E.toks E.cl u l → u + lvL (argsPT l) ≤ E.toks.length → (∀ e ∈ l, ∀ v, e.ok E.toks E.cl v → v + e.pt.lv ≤ E.toks.length → E.freads e v) → ∀ p ∈ subsF (argsIts l ++ [none]) u, E.freads p.1 p.2
  | [], u, _, _, _, p, hp => by simp [argsIts, subsF] at hp
  | [e], u, ho, hl, hr, p, hp => by
    rw [argsOk] at ho
    rw [argsPT_one] at hl
    simp only [lvL] at hl
    have h : p = (e, u) := by simpa [argsIts, subsF] using hp
    subst h
    exact hr e List.mem_cons_self u ho.1 (by omega)
  | e :: f :: l, u, ho, hl, hr, p, hp => by
    rw [argsOk] at ho
    rw [argsPT_two] at hl
    simp only [lvL, PT.lv] at hl
    rw [argsIts_two, List.cons_append, List.cons_append, subsF, subsF] at hp
    rcases List.mem_cons.1 hp with rfl | hp
    · exact hr e List.mem_cons_self u ho.1 (by omega)
    · exact fsubs_ok (f :: l) _ ho.2 (by omega) (fun x hx => hr x (List.mem_cons_of_mem _ hx)) p hp

theorem fexpr_reads (E : REnv) (hE : E.ok) : ∀ (n : Nat) (e : CE) (u : Nat), SizeOf.sizeOf e < n → e.ok E.toks E.cl u → u + e.pt.lv ≤ E.toks.length → E.freads e u
  | 0, e, u, h, _, _ => absurd h (by omega)
  | n + 1, .num, u, _, ho, hl => by
    intro i W hrep hAt
    rw [CE.ok] at ho
    rw [CE.pt] at hrep hl
    simp only [PT.lv, lvL] at hl
    obtain ⟨ks, hn, hr⟩ := rep_node hrep
    obtain ⟨k0, ks', rfl, h0, _⟩ := repL_leaf hr
    rw [CE.pe]
    exact fexpr_num E.B E.tv E.nv E.toks E.nodes i _ W hAt.1 hAt.2 hn k0 rfl _ (fleaf_peek E h0 (by omega)) _
  | n + 1, .truth, u, _, ho, hl => by
    intro i W hrep hAt
    rw [CE.ok] at ho
    rw [CE.pt] at hrep hl
    simp only [PT.lv, lvL] at hl
    obtain ⟨ks, hn, hr⟩ := rep_node hrep
    obtain ⟨k0, ks', rfl, h0, _⟩ := repL_leaf hr
    rw [CE.pe]
    rcases ho with ho | ho
    · rw [decide_eq_true ho]
      exact fexpr_true E.B E.tv E.nv E.toks E.nodes i _ W hAt.1 hAt.2 hn k0 rfl _ (fleaf_peek E h0 (by omega)) ho _
    · rw [decide_eq_false (by rw [ho]; decide)]
      exact fexpr_false E.B E.tv E.nv E.toks E.nodes i _ W hAt.1 hAt.2 hn k0 rfl _ (fleaf_peek E h0 (by omega)) ho _
  | n + 1, .res, u, _, ho, hl => by
    intro i W hrep hAt
    rw [CE.pt] at hrep hl
    simp only [PT.lv, lvL] at hl
    obtain ⟨ks, hn, hr⟩ := rep_node hrep
    obtain ⟨k0, ks', rfl, h0, _⟩ := repL_leaf hr
    rw [CE.pe]
    exact fexpr_res E.B E.tv E.nv E.toks E.nodes i _ W hAt.1 hAt.2 hn k0 rfl _ (fleaf_peek E h0 (by omega)) _
  | n + 1, .nam, u, _, ho, hl => by
    intro i W hrep hAt
    rw [CE.pt] at hrep hl
    simp only [PT.lv, lvL] at hl
    obtain ⟨ks, hn, hr⟩ := rep_node hrep
    obtain ⟨k0, ks', rfl, h0, _⟩ := repL_leaf hr
    rw [CE.pe]
    exact fexpr_name E.B E.tv E.nv E.toks E.nodes i _ W hAt.1 hAt.2 hn k0 rfl _ (fleaf_peek E h0 (by omega)) _
  | n + 1, .group e, u, hs, ho, hl => by
    intro i W hrep hAt
    rw [CE.ok] at ho
    rw [CE.pt] at hrep hl
    simp only [PT.lv, lvL] at hl
    simp only [CE.group.sizeOf_spec] at hs
    obtain ⟨ks, hn, hr⟩ := rep_node hrep
    obtain ⟨k0, ks', rfl, h0, hr⟩ := repL_leaf hr
    obtain ⟨k1, ks', rfl, h1, _⟩ := repL_sub hr
    rw [CE.pe]
    exact fexpr_group _ E.B E.tv E.nv E.toks E.nodes i _ W hAt.1 hAt.2 hn k0 rfl _ (fleaf_peek E h0 (by omega)) k1 rfl (fun W hT hB => fexpr_reads E hE n e (u + 1) (by omega) ho.2 (by omega) k1 W h1 ⟨hT, hB⟩)
  | n + 1, .un e, u, hs, ho, hl => by
    intro i W hrep hAt
    rw [CE.ok] at ho
    rw [CE.pt] at hrep hl
    simp only [PT.lv, lvL] at hl
    simp only [CE.un.sizeOf_spec] at hs
    obtain ⟨ks, hn, hr⟩ := rep_node hrep
    have hM := fmade_items E [none, some e] ks u i _ hn hr (kids_few hE (its := [none, some e]) hr (by simp only [List.map_cons, List.map_nil, itPT, lvL, PT.lv]; omega)) (fun p hp => by
      have h : p = (e, u + 1) := by simpa [subsF] using hp
      subst h
      exact fexpr_reads E hE n e (u + 1) (by omega) ho.2 (by omega))
    obtain ⟨k0, ks', rfl, h0, _⟩ := repL_leaf hr
    rw [CE.pe]
    rcases ho.1 with h | h
    · rw [if_pos h]
      exact fexpr_not _ E.B E.tv E.nv E.toks E.nodes i _ W hAt.1 hAt.2 hn k0 rfl _ (fleaf_peek E h0 (by omega)) h hM
    · rw [if_neg (by rw [h]; decide)]
      exact fexpr_neg _ E.B E.tv E.nv E.toks E.nodes i _ W hAt.1 hAt.2 hn k0 rfl _ (fleaf_peek E h0 (by omega)) h hM
  | n + 1, .bin a b, u, hs, ho, hl => by
    intro i W hrep hAt
    rw [CE.ok] at ho
    rw [CE.pt] at hrep hl
    simp only [PT.lv, lvL] at hl
    simp only [CE.bin.sizeOf_spec] at hs
    obtain ⟨ks, hn, hr⟩ := rep_node hrep
    have hM := fmade_items E [some a, none, some b] ks u i _ hn hr (kids_few hE (its := [some a, none, some b]) hr (by simp only [List.map_cons, List.map_nil, itPT, lvL, PT.lv]; omega)) (fun p hp => by
      have h : p = (a, u) ∨ p = (b, u + a.pt.lv + 1) := by simpa [subsF] using hp
      rcases h with rfl | rfl
      · exact fexpr_reads E hE n a u (by omega) ho.2.1 (by omega)
      · exact fexpr_reads E hE n b _ (by omega) ho.2.2 (by omega))
    obtain ⟨k0, ks', rfl, h0, hr⟩ := repL_sub hr
    obtain ⟨k1, ks', rfl, h1, _⟩ := repL_leaf hr
    obtain ⟨c, la, ea, c1, c2⟩ := a.node
    rw [ea] at h0
    obtain ⟨ksa, hna, _⟩ := rep_node h0
    rw [CE.pe]
    exact fexpr_bin _ E.B E.tv E.nv E.toks E.nodes i _ W hAt.1 hAt.2 hn k0 rfl zeroTok (fun W' hT hB => fleaf_no E.B E.tv E.nv E.toks E.nodes k0 _ W' hT hB hna (by simp only; omega)) k1 rfl _ (fleaf_peek E h1 (by omega)) ho.1 hM
  | n + 1, .iff a b c, u, hs, ho, hl => by
    intro i W hrep hAt
    rw [CE.ok] at ho
    rw [CE.pt] at hrep hl
    simp only [PT.lv, lvL] at hl
    simp only [CE.iff.sizeOf_spec] at hs
    obtain ⟨ks, hn, hr⟩ := rep_node hrep
    have hM := fmade_items E [none, some a, none, some b, none, some c] ks u i _ hn hr (kids_few hE (its := [none, some a, none, some b, none, some c]) hr (by simp only [List.map_cons, List.map_nil, itPT, lvL, PT.lv]; omega)) (fun p hp => by
      have h : p = (a, u + 1) ∨ p = (b, u + 1 + a.pt.lv + 1) ∨ p = (c, u + 1 + a.pt.lv + 1 + b.pt.lv + 1) := by simpa [subsF] using hp
      rcases h with rfl | rfl | rfl
      · exact fexpr_reads E hE n a _ (by omega) ho.2.1 (by omega)
      · exact fexpr_reads E hE n b _ (by omega) ho.2.2.1 (by omega)
      · exact fexpr_reads E hE n c _ (by omega) ho.2.2.2 (by omega))
    obtain ⟨k0, ks', rfl, h0, _⟩ := repL_leaf hr
    rw [CE.pe]
    exact fexpr_if _ E.B E.tv E.nv E.toks E.nodes i _ W hAt.1 hAt.2 hn k0 rfl _ (fleaf_peek E h0 (by omega)) hM
  | n + 1, .lett a b, u, hs, ho, hl => by
    intro i W hrep hAt
    rw [CE.ok] at ho
    rw [CE.pt] at hrep hl
    simp only [PT.lv, lvL] at hl
    simp only [CE.lett.sizeOf_spec] at hs
    obtain ⟨ks, hn, hr⟩ := rep_node hrep
    have hM := fmade_items E [none, none, none, some a, none, some b] ks u i _ hn hr (kids_few hE (its := [none, none, none, some a, none, some b]) hr (by simp only [List.map_cons, List.map_nil, itPT, lvL, PT.lv]; omega)) (fun p hp => by
      have h : p = (a, u + 3) ∨ p = (b, u + 3 + a.pt.lv + 1) := by simpa [subsF] using hp
      rcases h with rfl | rfl
      · exact fexpr_reads E hE n a _ (by omega) ho.2.2.1 (by omega)
      · exact fexpr_reads E hE n b _ (by omega) ho.2.2.2 (by omega))
    obtain ⟨k0, ks', rfl, h0, hr⟩ := repL_leaf hr
    obtain ⟨k1, ks', rfl, h1, _⟩ := repL_leaf hr
    rw [CE.pe]
    exact fexpr_let _ E.B E.tv E.nv E.toks E.nodes i _ W hAt.1 hAt.2 hn k0 rfl _ (fleaf_peek E h0 (by omega)) k1 rfl _ (fleaf_peek E h1 (by omega)) hM
  | n + 1, .asrt a b, u, hs, ho, hl => by
    intro i W hrep hAt
    rw [CE.ok] at ho
    rw [CE.pt] at hrep hl
    simp only [PT.lv, lvL] at hl
    simp only [CE.asrt.sizeOf_spec] at hs
    obtain ⟨ks, hn, hr⟩ := rep_node hrep
    have hM := fmade_items E [none, some a, none, some b] ks u i _ hn hr (kids_few hE (its := [none, some a, none, some b]) hr (by simp only [List.map_cons, List.map_nil, itPT, lvL, PT.lv]; omega)) (fun p hp => by
      have h : p = (a, u + 1) ∨ p = (b, u + 1 + a.pt.lv + 1) := by simpa [subsF] using hp
      rcases h with rfl | rfl
      · exact fexpr_reads E hE n a _ (by omega) ho.2.1 (by omega)
      · exact fexpr_reads E hE n b _ (by omega) ho.2.2 (by omega))
    obtain ⟨k0, ks', rfl, h0, _⟩ := repL_leaf hr
    rw [CE.pe]
    exact fexpr_assert _ E.B E.tv E.nv E.toks E.nodes i _ W hAt.1 hAt.2 hn k0 rfl _ (fleaf_peek E h0 (by omega)) hM
  | n + 1, .call q l, u, hs, ho, hl => by
    intro i W hrep hAt
    rw [CE.ok] at ho
    rw [CE.pt] at hrep hl
    simp only [CE.call.sizeOf_spec] at hs
    have hsz : ∀ e ∈ l, ∀ v, e.ok E.toks E.cl v → v + e.pt.lv ≤ E.toks.length → E.freads e v := fun e he v h1 h2 =>
      fexpr_reads E hE n e v (by have := List.sizeOf_lt_of_mem he; omega) h1 h2
    obtain ⟨ks, hn, hr⟩ := rep_node hrep
    cases q with
    | true =>
      simp only [if_true] at hr hl ho
      simp only [PT.lv, lvL_append, lvL] at hl
      have hr' : RepL E.nodes ks u (([none, none, none, none] ++ (argsIts l ++ [none])).map itPT) := by
        rw [List.map_append, List.map_append, argsIts_pt]
        simpa [itPT] using hr
      have hM := fmade_items E ([none, none, none, none] ++ (argsIts l ++ [none])) ks u i _ hn hr' (kids_few hE hr' (by rw [List.map_append, List.map_append, argsIts_pt]; simp only [List.map_cons, List.map_nil, itPT, lvL_append, lvL, PT.lv]; omega)) (fun p hp => by
        simp only [List.cons_append, List.nil_append, subsF] at hp
        exact fsubs_ok l (u + 4) ho.2.2.2.2.2 (by omega) hsz p hp)
      simp only [List.cons_append, List.nil_append, subsF] at hM
      rw [subs_args] at hM
      obtain ⟨k0, ks', rfl, h0, hr⟩ := repL_leaf hr
      obtain ⟨k1, ks', rfl, h1, hr⟩ := repL_leaf hr
      obtain ⟨k2, ks', rfl, h2, hr⟩ := repL_leaf hr
      rw [CE.pe, if_pos rfl]
      exact fexpr_call1 _ E.B E.tv E.nv E.toks E.nodes i _ W hAt.1 hAt.2 hn k0 rfl _ (fleaf_peek E h0 (by omega)) k1 rfl _ _ _ (fleaf_text E h1 (by omega) ho.2.2.2.1) k2 rfl _ (fleaf_peek E h2 (by omega)) hM
    | false =>
      simp only [Bool.false_eq_true, if_false] at hr hl ho
      simp only [PT.lv, lvL_append, lvL] at hl
      have hr' : RepL E.nodes ks u (([none, none] ++ (argsIts l ++ [none])).map itPT) := by
        rw [List.map_append, List.map_append, argsIts_pt]
        simpa [itPT] using hr
      have hM := fmade_items E ([none, none] ++ (argsIts l ++ [none])) ks u i _ hn hr' (kids_few hE hr' (by rw [List.map_append, List.map_append, argsIts_pt]; simp only [List.map_cons, List.map_nil, itPT, lvL_append, lvL, PT.lv]; omega)) (fun p hp => by
        simp only [List.cons_append, List.nil_append, subsF] at hp
        exact fsubs_ok l (u + 2) ho.2.2.2.2 (by omega) hsz p hp)
      simp only [List.cons_append, List.nil_append, subsF] at hM
      rw [subs_args] at hM
      obtain ⟨k0, ks', rfl, h0, hr⟩ := repL_leaf hr
      obtain ⟨k1, ks', rfl, h1, hr⟩ := repL_leaf hr
      rw [CE.pe, if_neg (by decide)]
      exact fexpr_call0 _ E.B E.tv E.nv E.toks E.nodes i _ W hAt.1 hAt.2 hn k0 rfl _ (fleaf_peek E h0 (by omega)) k1 rfl _ _ _ (fleaf_text E h1 (by omega) ho.2.2.2.1) hM
end Go.Proofs.YtdjkibbnkklajaaGreatDoor

namespace Go.Proofs.YtdjkibbnkklajaaGreatDoor
open Go.RowKit Go

set_option maxHeartbeats 1000000 in
set_option maxRecDepth 100000 in
theorem rats_any : ∀ (n : Nat) (e : PE), SizeOf.sizeOf e < n → ∀ (B : Nat) (m : Value) (ae : Option Addr) (ce : Nat) (w : World), EAt XR (fun b => b < B) w m (.slice ae e.kids.length ce) e → B ≤ w.heap.size → e.size ≤ 1099511627776 →
    Calls Tryz.prog 14 #[.agg #[.int .i64 e.op, .string ⟨e.name.toArray⟩, .string ⟨e.module.toArray⟩, .string ⟨e.txt.toArray⟩, .bool e.yes, .slice ae e.kids.length ce, .int .i64 e.at_]] w (RowPost e.ats w)
  | 0, e, hs, _, _, _, _, _, _, _, _ => absurd hs (by omega)
  | n + 1, e, hs, B, m, ae, ce, w, h, hB, hz => by
    obtain ⟨i0, hi, hz0, hz1, hz2⟩ := info_parts Tryz.infoIntA
    have hsub := kids_sizeOf e
    have hdef := e.size_def
    have hats := e.ats_def
    obtain ⟨hnum, ae', ce', hv, hcap, hf⟩ := h.form
    simp only [Value.slice.injEq] at hv
    obtain ⟨rfl, -, rfl⟩ := hv
    have hfew := sizeE_few e.kids
    have IH := Lib.hid (fun (x : PE) (hx : x ∈ e.kids) => rats_any n x (by have := hsub x hx; omega))
    have HF := Lib.hid hf
    have HA := Lib.hid hats
    have hkl : e.kids.length ≤ 1099511627776 := by omega
    have hzk : sizeE e.kids + 1 ≤ 1099511627776 := by omega
    clear h hnum hf hsub hs hdef hz hats
    go_enter Tryz.func14, Tryz.ntmps14
    go_wp2
    have e0 := heap_alloc_new w (.cells #[.int .i64 e.op, .string ⟨e.name.toArray⟩, .string ⟨e.module.toArray⟩, .string ⟨e.txt.toArray⟩, .bool e.yes, .slice ae e.kids.length ce, .int .i64 e.at_] 42)
    have e0 := (Lib.alloc_old (w.alloc (.cells #[.int .i64 e.op, .string ⟨e.name.toArray⟩, .string ⟨e.module.toArray⟩, .string ⟨e.txt.toArray⟩, .bool e.yes, .slice ae e.kids.length ce, .int .i64 e.at_] 42)) (.cells #[.int .i64 e.at_] 3) w.heap.size (by simp)).trans e0
    have e1 := heap_alloc_new (w.alloc (.cells #[.int .i64 e.op, .string ⟨e.name.toArray⟩, .string ⟨e.module.toArray⟩, .string ⟨e.txt.toArray⟩, .bool e.yes, .slice ae e.kids.length ce, .int .i64 e.at_] 42)) (.cells #[.int .i64 e.at_] 3)
    have hb1 : Below w.heap.size w ((w.alloc (.cells #[.int .i64 e.op, .string ⟨e.name.toArray⟩, .string ⟨e.module.toArray⟩, .string ⟨e.txt.toArray⟩, .bool e.yes, .slice ae e.kids.length ce, .int .i64 e.at_] 42)).alloc (.cells #[.int .i64 e.at_] 3)) := ((Below.refl _ w).alloc (Nat.le_refl _) _).alloc (by simp) _
    rw [World.size_alloc] at e1
    generalize (w.alloc _).alloc _ = W at e0 e1 hb1 ⊢
    generalize hkk : e.kids = ks at *
    go_loopw [3, 4] (fun v q wr => ∃ (k : Nat) (g cap : Nat) (l : List Int), k ≤ ks.length ∧ q = .int .i64 k ∧ l = (e.at_ : Int) :: atsE (ks.take k) ∧ v = .slice (some ⟨g, 0, none⟩) l.length cap ∧ wr.ownsRow w.heap.size 3 1 (.slice (some ⟨g, 0, none⟩) l.length cap) l.length (l.map (Value.int .i64)) ∧ wr.heap[w.heap.size]? = some (.cells #[.int .i64 e.op, .string ⟨e.name.toArray⟩, .string ⟨e.module.toArray⟩, .string ⟨e.txt.toArray⟩, .bool e.yes, .slice ae ks.length ce, .int .i64 e.at_] 42 (0, 0)) ∧ Below w.heap.size w wr) (fun _ q _ => ks.length - (intOf q).toNat)
    case atStart => exact ⟨0, w.heap.size + 1, 1, [(e.at_ : Int)], Nat.zero_le _, rfl, rfl, rfl, ⟨rfl, .inr ⟨_, 1, #[.int .i64 e.at_], rfl, by omega, e1, Nat.le_refl _, by decide, rfl, rfl⟩⟩, e0, hb1⟩
    case round =>
      obtain ⟨k, g, cap, l, hk, rfl, hl, rfl, hrow, hbx, hbl⟩ := hrel
      have hw := hbl.size
      have c5 : wr.cell? ⟨w.heap.size, 5, none⟩ = some (.slice ae ks.length ce) := by rw [Lib.cell_of_heap hbx]; rfl
      by_cases hlt : k < ks.length
      · obtain ⟨b, off, rfl, hbB, hbw, hkid⟩ := HF.out (by omega)
        obtain ⟨m1, kv, hE, hc⟩ := hkid k hlt
        have hmem : ks[k] ∈ ks := List.getElem_mem hlt
        have hle := sizeE_mem ks _ hmem
        have hsz : l ++ ks[k].ats = (e.at_ : Int) :: atsE (ks.take (k + 1)) := by rw [take_succ_at hlt, atsE_append, hl, List.cons_append]; simp [atsE]
        have htl : l.length + ks[k].size ≤ 1 + sizeE ks := by
          have h1 := congrArg List.length hsz
          rw [List.length_append, PE.ats_len, List.length_cons, atsE_len] at h1
          have := sizeE_append (ks.take (k + 1)) (ks.drop (k + 1))
          rw [List.take_append_drop] at this
          omega
        obtain ⟨_, ae1, ce1, rfl, _, _⟩ := hE.form
        have IHx := IH.out _ hmem B m1 ae1 ce1
        generalize ks[k] = x at hE hc hsz hle IHx htl
        have y0 := (hbl.cell (p := ⟨b, off + k * 7, none⟩) hbw).trans (hc 0 _ rfl)
        have y1 := (hbl.cell (p := ⟨b, off + k * 7 + 1, none⟩) hbw).trans (hc 1 _ rfl)
        have y2 := (hbl.cell (p := ⟨b, off + k * 7 + 2, none⟩) hbw).trans (hc 2 _ rfl)
        have y3 := (hbl.cell (p := ⟨b, off + k * 7 + 3, none⟩) hbw).trans (hc 3 _ rfl)
        have y4 := (hbl.cell (p := ⟨b, off + k * 7 + 4, none⟩) hbw).trans (hc 4 _ rfl)
        have y5 := (hbl.cell (p := ⟨b, off + k * 7 + 5, none⟩) hbw).trans (hc 5 _ rfl)
        have y6 := (hbl.cell (p := ⟨b, off + k * 7 + 6, none⟩) hbw).trans (hc 6 _ rfl)
        simp only [strV] at y1 y2 y3
        have HI := Lib.hid (IHx wr (hE.frame (Alk.ofB hbl (fun b hb => by omega))) (by omega) (by omega))
        have hxl := x.ats_len
        have HS := Lib.hid hsz
        have HX := Lib.hid hxl
        have hxb : l.length + x.ats.length ≤ 1099511627776 := by omega
        have hl0 : 0 < l.length := by rw [hl]; simp
        have HBX := Lib.hid hbx
        clear hkid hc hE IHx hsz hl hxl hbx
        have hkI : (k : Int) < (ks.length : Int) := by omega
        go_wp2_with (first | (go_at_call 14; refine HI.out.mono ?_; rintro r w2 ⟨g2, c2, rfl, hrow2, hb2⟩; have hown2 := own_below hrow hb2; have hzz := hb2.size) | (at_builtin; refine wpList_append_own_at _ rfl _ _ 49 rfl w.heap.size 3 i0 (.int .i64 0) 1 8 Tryz.underlying49 hi hz0 hz1 hz2 rfl (by decide) _ _ _ rfl hown2 ⟨g2, 0, none⟩ x.ats.length c2 (x.ats.map (Value.int .i64)) rfl (by simp) (fun j u hj => row_cell hrow2 hj) (by simp [Value.oneCell']) (by unfold maxLen; omega) (by omega) (by omega) ?_; intro v' w3 hown3 hgrow _ hob'))
        have hgrow' : w2.grownBy w3 (Value.slice (some ⟨g, 0, none⟩) l.length cap).ownBlock := hgrow
        obtain ⟨g3, c3, rfl⟩ := row_form hown3 (by omega)
        have hlx := (Array.getElem?_eq_some_iff.1 HBX.out).1
        refine ⟨⟨k + 1, g3, c3, l ++ x.ats, by omega, by go_num, HS.out, ?_, ?_, ?_, ?_⟩, by simp [intOf]; omega⟩
        · rw [List.length_append]
        · rw [List.length_append, List.map_append]
          exact hown3
        · exact own_block hown2 hgrow' ((hb2.block w.heap.size hlx).trans HBX.out) (by decide)
        · exact (hbl.trans (hb2.mono hw)).grown hgrow' (by omega) (fun q hq => (hown2.lt q hq).1)
      · obtain rfl : k = ks.length := by omega
        have hkI : decide ((ks.length : Int) < (ks.length : Int)) = false := decide_eq_false (by omega)
        rw [List.take_length, ← HA.out] at hl
        subst hl
        go_wp2
        go_ret
        exact ⟨g, cap, rfl, hrow, hbl⟩

def SamePost (p : Bool) (w : World) (r : Ending) (w' : World) : Prop := r = .returned (.bool p) ∧ Below w.heap.size w w'

set_option maxHeartbeats 1000000 in
set_option maxRecDepth 100000 in
theorem same_yes (B : Nat) (v u : Value) (l : List Int) (w : World) (h1 : Ints B w v l) (h2 : Ints B w u l) (hB : B ≤ w.heap.size) (hn : l.length ≤ 1099511627776) :
    Calls Tryz.prog 12 #[v, u] w (SamePost true w) := by
  obtain ⟨ao, cap, rfl, _, hf⟩ := h1.form
  obtain ⟨bo, cbp, rfl, _, hg⟩ := h2.form
  have HF := Lib.hid hf
  have HG := Lib.hid hg
  clear h1 h2 hf hg
  go_enter Tryz.func12, Tryz.ntmps12
  go_wp2
  go_loopw [5] (fun q wr => ∃ k : Nat, k ≤ l.length ∧ q = .int .i64 k ∧ Below w.heap.size w wr) (fun q _ => l.length - (intOf q).toNat)
  case atStart => exact ⟨0, Nat.zero_le _, rfl, Below.refl _ _⟩
  case round =>
    obtain ⟨k, hk, rfl, hbl⟩ := hrel
    by_cases hlt : k < l.length
    · obtain ⟨b, off, rfl, hb, hc⟩ := HF.out (by omega)
      obtain ⟨b', off', rfl, hb', hc'⟩ := HG.out (by omega)
      have x0 := (hbl.cell (p := ⟨b, off + k, none⟩) (by show b < _; omega)).trans (hc k hlt)
      have x1 := (hbl.cell (p := ⟨b', off' + k, none⟩) (by show b' < _; omega)).trans (hc' k hlt)
      generalize l[k] = x at x0 x1
      have hkI : (k : Int) < (l.length : Int) := by omega
      clear hc hc'
      go_wp2_with fail
      go_quiet (fail)
      go_wp2
      go_roundw
      case rel => exact ⟨k + 1, by omega, by go_num, below_drewN hbl _⟩
      case measure => simp [intOf]; omega
    · obtain rfl : k = l.length := by omega
      have hkI : decide ((l.length : Int) < (l.length : Int)) = false := decide_eq_false (by omega)
      go_wp2
      go_ret
      exact ⟨rfl, hbl⟩
end Go.Proofs.YtdjkibbnkklajaaGreatDoor

namespace Go.Proofs.YtdjkibbnkklajaaGreatDoor
open Go.RowKit Go

/-- The document's answer's expression, in a block. -/
def boxF (op : Nat) (nm md tx : List UInt8) (ys : Bool) (kv : Value) (a_ : Nat) : Array Value := #[.int .i64 op, .string ⟨nm.toArray⟩, .string ⟨md.toArray⟩, .string ⟨tx.toArray⟩, .bool ys, kv, .int .i64 a_]
theorem boxF_cells {w : World} {b op : Nat} {nm md tx : List UInt8} {ys : Bool} {kv : Value} {a_ : Nat} (h : w.heap[b]? = some (.cells (boxF op nm md tx ys kv a_) 42 (0, 0))) :
    w.cell? ⟨b, 0, none⟩ = some (.int .i64 op) ∧ w.cell? ⟨b, 1, none⟩ = some (.string ⟨nm.toArray⟩) ∧ w.cell? ⟨b, 2, none⟩ = some (.string ⟨md.toArray⟩) ∧ w.cell? ⟨b, 3, none⟩ = some (.string ⟨tx.toArray⟩) ∧ w.cell? ⟨b, 4, none⟩ = some (.bool ys) ∧ w.cell? ⟨b, 5, none⟩ = some kv ∧ w.cell? ⟨b, 6, none⟩ = some (.int .i64 a_) := by
  refine ⟨?_, ?_, ?_, ?_, ?_, ?_, ?_⟩ <;> (rw [Lib.cell_of_heap h]; rfl)
theorem boxF_set {w : World} {b : Nat} (h : w.heap[b]? = some (.cells (fCells 0 0 (.slice none 0 0)) 42 (0, 0))) (op : Nat) (nm md tx : List UInt8) (ys : Bool) (kv : Value) (a_ : Nat) :
    (set7 w b (.int .i64 op) (.string ⟨nm.toArray⟩) (.string ⟨md.toArray⟩) (.string ⟨tx.toArray⟩) (.bool ys) kv (.int .i64 a_)).heap[b]? = some (.cells (boxF op nm md tx ys kv a_) 42 (0, 0)) := by
  have h0 := heap_setCell_same w b 0 _ _ (.int .i64 op) h
  have h1 := heap_setCell_same _ b 1 _ _ (.string ⟨nm.toArray⟩) h0
  have h2 := heap_setCell_same _ b 2 _ _ (.string ⟨md.toArray⟩) h1
  have h3 := heap_setCell_same _ b 3 _ _ (.string ⟨tx.toArray⟩) h2
  have h4 := heap_setCell_same _ b 4 _ _ (.bool ys) h3
  have h5 := heap_setCell_same _ b 5 _ _ kv h4
  exact heap_setCell_same _ b 6 _ _ (.int .i64 a_) h5

set_option maxHeartbeats 2000000 in
set_option maxRecDepth 100000 in
theorem ast_big (s : ByteArray) (w : World) (hs : s.size ≤ maxLen) (h : 1500 < s.size) :
    Calls Tryz.prog 3 #[.string s] w fun e w' => e = .returned (.bool true) ∧ Below w.heap.size w w' := by
  unfold maxLen at hs
  go_enter Tryz.func3, Tryz.ntmps3
  go_wp2_with (go_at_call 4; refine (anchor_any _).mono ?_; rintro e w1 ⟨rfl, hb1⟩)
  go_ret
  exact ⟨rfl, hb1⟩

set_option maxHeartbeats 2000000 in
set_option maxRecDepth 100000 in
theorem ast_bad (s : ByteArray) (w : World) (hs : s.size ≤ 1500) (c a : Nat) (h : formF s.data.toList 100 = .bad c a) :
    Calls Tryz.prog 3 #[.string s] w fun e w' => e = .returned (.bool true) ∧ Below w.heap.size w w' := by
  have hc := formF_bad h
  have hcI : ((c : Int) == 0) = false := beq_eq_false_iff_ne.2 (by omega)
  have HF := Lib.hid (fun W => formula_any s 100 W (by omega) (by omega) (by omega))
  rw [h] at HF
  have hsI : ¬ ((1500 : Int) < (s.size : Int)) := by omega
  clear h hc
  go_enter Tryz.func3, Tryz.ntmps3
  go_upto_region 6 with (first | (go_at_call 4; refine (anchor_any _).mono ?_; rintro e w1 ⟨rfl, hb1⟩) | (go_at_call 5; refine (HF.out _).mono ?_; rintro e w2 ⟨hb2, rfl⟩))
  have hb3 := (below_new w2 (.cells #[.slice none 0 0, .slice none 0 0] 26)).alloc (by simp) (.cells #[.int .i64 c, .int .i64 a] 29)
  have e1 := (Lib.alloc_old (w2.alloc (.cells #[.slice none 0 0, .slice none 0 0] 26)) (.cells #[.int .i64 c, .int .i64 a] 29) w2.heap.size (by simp)).trans (heap_alloc_new w2 (.cells #[.slice none 0 0, .slice none 0 0] 26))
  have e2 := heap_alloc_new (w2.alloc (.cells #[.slice none 0 0, .slice none 0 0] 26)) (.cells #[.int .i64 c, .int .i64 a] 29)
  rw [World.size_alloc] at e2
  have hbw := (hb1.trans (hb2.mono hb1.size)).trans (hb3.mono (hb1.trans (hb2.mono hb1.size)).size)
  clear hb1 hb2 hb3 HF
  generalize (w2.alloc _).alloc _ = w3 at e1 e2 hbw ⊢
  generalize w2.heap.size = tb at e1 e2 ⊢
  obtain ⟨c0, c1⟩ := tree_cells e1
  have HE2 := Lib.hid e2
  clear e1 e2
  go_upto_region 7 with (go_at_call 6; refine (formulaOf_no _).mono ?_; rintro e w4 ⟨rfl, hb4⟩)
  have hb5 := hb4.alloc hb4.size (.cells #[.int .i64 0, .string ⟨#[]⟩, .string ⟨#[]⟩, .bool false, .slice none 0 0, .bool false, .slice none 0 0, .int .i64 0] 37)
  have hn := heap_alloc_new w4 (.cells #[.int .i64 0, .string ⟨#[]⟩, .string ⟨#[]⟩, .bool false, .slice none 0 0, .bool false, .slice none 0 0, .int .i64 0] 37)
  have e24 := (hb5.block _ (Array.getElem?_eq_some_iff.1 HE2.out).1).trans HE2.out
  have hbw5 := hbw.trans (hb5.mono hbw.size)
  clear hb4 hb5 HE2 c0 c1 hbw
  generalize w4.heap.size = xb at hn ⊢
  generalize w4.alloc _ = w5 at hn e24 hbw5 ⊢
  obtain ⟨f0, f1, -⟩ := fault_cells e24
  have x0 : w5.cell? ⟨xb, 0, none⟩ = some (.int .i64 0) := by rw [Lib.cell_of_heap hn]; rfl
  go_wp2
  go_ret
  exact ⟨rfl, hbw5⟩
end Go.Proofs.YtdjkibbnkklajaaGreatDoor
