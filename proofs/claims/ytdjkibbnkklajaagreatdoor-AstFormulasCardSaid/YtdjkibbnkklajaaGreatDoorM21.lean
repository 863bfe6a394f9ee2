/- The walks of the code that the claim reaches, and the plain laws: FormPlain, LexNums, GoodLaws, EdumpW. No condition of ours. -/
import Derived.Test.YtdjkibbnkklajaaGreatDoorM20
import Derived.Test.YtdjkibbnkklajaaGreatDoorM09
import Derived.Test.YtdjkibbnkklajaaGreatDoorM05
import Derived.Test.YtdjkibbnkklajaaGreatDoorM03
import Derived.Test.YtdjkibbnkklajaaGreatDoorM01
import Derived.Test.YtdjkibbnkklajaaGreatDoorM17
import Derived.Test.YtdjkibbnkklajaaGreatDoorM19
import Derived.Deep.CutBlock
namespace Go.Proofs.YtdjkibbnkklajaaGreatDoor

/-- A fault and its place; or a tree. -/
inductive FRes where
  | bad (e a : Nat)
  | good (toks : List Tok) (nodes : List Nd)

def gasA (toks : List Tok) : Nat := 20 * toks.length + 18
def ofSt (toks : List Tok) (st : PSt) : FRes := if st.fE = 0 then .good toks st.nodes else .bad st.fE st.fAt
/-- Reading a formula alone. -/
def formF (S : List UInt8) (d : Nat) : FRes :=
  match lexAll S with
  | .error x => .bad x.1 x.2
  | .ok toks => match aloneM toks d (gasA toks) with
    | none => .bad 99 0
    | some st => ofSt toks st

/-- The tree of a formula alone. -/
def aloneT (e : CE) : PT := .node 18 [e.pt, .leaf]

theorem Laid.last5 {T : List UInt8} {p : Nat} {l : List Tok} (h : Laid T p l) {u : Nat} (hu : u < l.length) (h5 : kindAt l u = 5) : u + 1 = l.length := by
  unfold kindAt peekF at h5
  rw [Nat.min_eq_left (by omega), List.getD_eq_getElem?_getD, List.getElem?_eq_getElem hu] at h5
  have := (h.last u hu).1 h5
  omega
theorem Laid.endOk {T : List UInt8} {p : Nat} {l : List Tok} (h : Laid T p l) : EndOk l := by
  have h0 := h.some
  unfold EndOk peekF
  rw [Nat.min_eq_right (by omega), List.getD_eq_getElem?_getD, List.getElem?_eq_getElem (by omega)]
  exact (h.last _ (by omega)).2 rfl

/-- What a parser has when it has read. -/
theorem alone_total {T : List UInt8} {p : Nat} {toks : List Tok} (hL : Laid T p toks) (d : Nat) :
    ∃ a, run toks d (gasA toks) (.expr 1) { startP with clause := true } = some a ∧ a.2.used ≤ toks.length ∧ a.2.nodes.length ≤ 2 * toks.length := by
  obtain ⟨a, ha⟩ := run_total toks d hL.endOk (gasA toks) (.expr 1) { startP with clause := true } trivial (Nat.le_refl _)
  have h1 := run_wth toks d _ _ _ _ ha (Nat.zero_le _)
  have h2 := run_slk toks d _ _ _ _ ha
  unfold Slk at h2
  simp only [startP, List.length_nil] at h2
  exact ⟨a, ha, h1, by omega⟩

theorem nodeM_grows (k : Int) (l : List Int) (st : PSt) : (nodeM k l st).2.nodes.length ≤ st.nodes.length + 1 := (nodeM_two k l st).2.1
theorem kindM_grows (toks : List Tok) (k : Nat) (st : PSt) : (kindM toks k st).2.nodes.length ≤ st.nodes.length + 1 := by
  unfold kindM
  split
  · rcases leafM_two toks st with h | h
    · rw [h]; simp
    · omega
  · unfold failM; split <;> simp

theorem alone_tree {T : List UInt8} {p : Nat} {toks : List Tok} (hL : Laid T p toks) {d g : Nat} {a : Int × PSt} (ha : run toks d g (.expr 1) { startP with clause := true } = some a)
    (hf : (nodeM 18 [a.1, (kindM toks 5 a.2).1] (kindM toks 5 a.2).2).2.fE = 0) :
    ∃ e : CE, (nodeM 18 [a.1, (kindM toks 5 a.2).1] (kindM toks 5 a.2).2).2.nodes = (aloneT e).em 0 0 ∧ e.ok toks true 0 ∧ e.pt.lv + 1 = toks.length := by
  have hk := (nodeM_ext _ _ _).zero hf
  have h1 := (kindM_ext toks 5 a.2).zero hk
  obtain ⟨e, hg, hid, hok, hu⟩ := run_tree toks hL.endOk d g (.expr 1) _ a ha h1
  have hu' := hu hL.some
  have hku : kindM toks 5 a.2 = leafM toks a.2 ∧ kindAt toks a.2.used = 5 := by
    unfold kindM at hk ⊢
    by_cases hc : a.2.fE = 0 ∧ (peekF toks a.2.used).kind = 5
    · rw [if_pos hc]
      exact ⟨rfl, hc.2⟩
    · rw [if_neg hc] at hk
      exact (fail_no (by decide) hk).elim
  have hlast := hL.last5 hu' hku.2
  obtain ⟨hl1, hl2⟩ := Grew.leaf (toks := toks) (st := a.2) (by omega)
  have hall := hg.append hl1
  rw [hku.1] at hf hk ⊢
  have hlen := hg.len
  have hn := hall.node hk 18
  have hids : idsL ({ startP with clause := true } : PSt).nodes.length ([e.pt] ++ [.leaf]) = [a.1, (leafM toks a.2).1] := by
    rw [hid, hl2, hlen]
    simp [idsL, startP, ndL, PT.nd]
  rw [hids] at hn
  refine ⟨e, ?_, hok, ?_⟩
  · have h18 := hn.1
    simp only [Int.cast_ofNat_Int] at h18
    rw [h18]
    simp [startP, emL, aloneT]
  · have := hg.used
    simp only [lvL, startP] at this
    omega

theorem formF_good {S : List UInt8} {d : Nat} {toks : List Tok} {nodes : List Nd} (h : formF S d = .good toks nodes) :
    lexAll S = .ok toks ∧ ∃ e : CE, nodes = (aloneT e).em 0 0 ∧ e.ok toks true 0 ∧ e.pt.lv + 1 = toks.length ∧ nodes.length ≤ 2 * toks.length + 2 := by
  unfold formF at h
  cases hl : lexAll S with
  | error x => rw [hl] at h; cases h
  | ok l =>
    rw [hl] at h
    simp only at h
    have hL := lexAll_laid hl
    obtain ⟨a, ha, hu, hn⟩ := alone_total hL d
    unfold aloneM at h
    rw [ha, Option.bind_some] at h
    simp only [ofSt] at h
    split at h
    · rename_i hf
      injection h with h1 h2
      subst h1
      obtain ⟨e, he, hok, hlv⟩ := alone_tree hL ha hf
      refine ⟨rfl, e, by rw [← h2, he], hok, hlv, ?_⟩
      rw [← h2]
      have g1 := nodeM_grows 18 [a.1, (kindM l 5 a.2).1] (kindM l 5 a.2).2
      have g2 := kindM_grows l 5 a.2
      omega
    · cases h

theorem formF_bad {S : List UInt8} {d e a : Nat} (h : formF S d = .bad e a) : e ≠ 0 := by
  unfold formF at h
  cases hl : lexAll S with
  | error x =>
    rw [hl] at h
    injection h with h1 h2
    have := (lexAll_fault hl).2
    omega
  | ok l =>
    rw [hl] at h
    simp only at h
    split at h
    · injection h with h1 _; omega
    · unfold ofSt at h
      split at h
      · cases h
      · rename_i hf
        injection h with h1 _
        omega

theorem formF_deeper {S : List UInt8} {d d' : Nat} {toks : List Tok} {nodes : List Nd} (hdd : d ≤ d') (h : formF S d = .good toks nodes) : formF S d' = .good toks nodes := by
  unfold formF at h ⊢
  cases hl : lexAll S with
  | error x => rw [hl] at h; cases h
  | ok l =>
    rw [hl] at h
    simp only at h ⊢
    cases hm : aloneM l d (gasA l) with
    | none => rw [hm] at h; cases h
    | some st =>
      rw [hm] at h
      simp only at h
      have hs : st.fE = 0 := by
        unfold ofSt at h
        split at h
        · assumption
        · cases h
      rw [aloneM_deeper hdd hm hs]
      exact h

mutual
/-- No node has more kids than there are nodes. -/
theorem em_kids : ∀ (t : PT) (b u : Nat), ∀ n ∈ t.em b u, n.kids.length ≤ t.nd
  | .leaf, b, u, n, h => by
    rw [PT.em, List.mem_singleton] at h
    subst h
    simp
  | .node k l, b, u, n, h => by
    rw [PT.em, List.mem_append, List.mem_singleton] at h
    rw [PT.nd]
    rcases h with h | h
    · have := emL_kids l b u n h
      omega
    · subst h
      have := ids_few l b
      simp only
      omega
theorem emL_kids : ∀ (l : List PT) (b u : Nat), ∀ n ∈ emL b u l, n.kids.length ≤ ndL l
  | [], b, u, n, h => by rw [emL] at h; cases h
  | t :: l, b, u, n, h => by
    rw [emL, List.mem_append] at h
    rw [ndL]
    rcases h with h | h
    · have := em_kids t _ _ n h
      omega
    · have := emL_kids l _ _ n h
      omega
theorem ids_few : ∀ (l : List PT) (b : Nat), (idsL b l).length ≤ ndL l
  | [], b => by simp [idsL]
  | t :: l, b => by
    have := ids_few l (b + t.nd)
    have hp := t.nd_pos
    rw [idsL, ndL, List.length_cons]
    omega
end
end Go.Proofs.YtdjkibbnkklajaaGreatDoor

namespace Go.Proofs.YtdjkibbnkklajaaGreatDoor

def numTok (l : List UInt8) : Prop := digitsB l = true ∧ l ≠ [] ∧ l.length ≤ 60 ∧ (l.head? = some 48 → l.length = 1)

theorem digitB_nat (c : UInt8) : digitB c = (decide (48 ≤ c.toNat) && decide (c.toNat ≤ 57)) := by
  unfold digitB
  rw [Bool.eq_iff_iff]
  simp only [Bool.and_eq_true, decide_eq_true_eq, UInt8.le_iff_toNat_le]
  exact Iff.rfl

theorem tokF_num (T : List UInt8) (h : (tokF T).1 = 3) (h0 : (tokF T).2.2 = 0) : numTok (T.take (tokF T).2.1) := by
  cases T with
  | nil => simp [tokF] at h
  | cons c r =>
    rw [tokF] at h h0 ⊢
    by_cases hc : letterB c = true
    · rw [if_pos hc] at h
      simp only [wordF] at h
      split at h
      · cases h
      · split at h <;> cases h
    · rw [if_neg hc] at h h0 ⊢
      by_cases hd : digitB c = true
      · rw [if_pos hd] at h h0 ⊢
        simp only [numF] at h h0 ⊢
        split at h
        · cases h
        · rename_i h60
          rw [if_neg h60]
          simp only
          have ht : (c :: r).take ((c :: r).takeWhile digitB).length = (c :: r).takeWhile digitB := (List.prefix_iff_eq_take.1 (List.takeWhile_prefix _)).symm
          have hne : (c :: r).takeWhile digitB ≠ [] := by rw [List.takeWhile_cons_of_pos hd]; simp
          have hall : ∀ x ∈ (c :: r).takeWhile digitB, digitB x = true := fun x hx => by
            have := List.all_takeWhile (l := c :: r) (p := digitB)
            rw [List.all_eq_true] at this
            exact this x hx
          rw [ht]
          generalize (c :: r).takeWhile digitB = w at h60 hne hall
          refine ⟨?_, hne, by omega, fun q => ?_⟩
          · rw [digitsB, List.all_eq_true]
            intro x hx
            rw [← digitB_nat]
            exact hall x hx
          · rw [List.head?_eq_getElem?] at q
            have := List.length_pos_iff.2 hne
            by_cases h1 : 1 < w.length
            · exact absurd (.inr ⟨h1, q⟩) h60
            · omega
      · rw [if_neg hd, symF] at h
        split at h <;> cases h

theorem lexF_nums : ∀ (n : Nat) (T : List UInt8) (p : Nat) (l : List Tok), lexF n T p = .ok l → ∀ t ∈ l, t.kind = 3 → numTok t.text
  | 0, T, p, l, h, t, ht, hk => by rw [lexF] at h; cases h
  | n + 1, T, p, l, h, t, ht, hk => by
    rw [lexF] at h
    try simp only at h
    split at h
    · cases h
    rename_i h0
    split at h
    · injection h with h
      subst h
      rw [List.mem_singleton] at ht
      subst ht
      cases hk
    · split at h
      · cases h
      · rename_i l' hl'
        injection h with h
        subst h
        rcases List.mem_cons.1 ht with rfl | ht
        · exact tokF_num _ hk (by omega)
        · exact lexF_nums n _ _ _ hl' t ht hk

theorem lexAll_nums {S : List UInt8} {l : List Tok} (h : lexAll S = .ok l) : ∀ t ∈ l, t.kind = 3 → numTok t.text := by
  unfold lexAll at h
  split at h
  · cases h
  · exact lexF_nums _ _ _ _ h

theorem peek_mem {toks : List Tok} (h : 0 < toks.length) (u : Nat) : peekF toks u ∈ toks := by
  unfold peekF
  rw [List.getD_eq_getElem?_getD, List.getElem?_eq_getElem (by omega), Option.getD_some]
  exact List.getElem_mem _

theorem numTok.dec {l : List UInt8} (h : numTok l) : decF (decV l) = l := dec_text l h.1 h.2.1 h.2.2.2
theorem lexAll_numsOk {S : List UInt8} {l : List Tok} (h : lexAll S = .ok l) : NumsOk l := fun u hu =>
  (lexAll_nums h _ (peek_mem (lexAll_laid h).some u) hu).dec
end Go.Proofs.YtdjkibbnkklajaaGreatDoor

namespace Go.Proofs.YtdjkibbnkklajaaGreatDoor

theorem dec_two {n : Nat} (h : n < 100) : (decF n).length ≤ 2 := by
  rw [decF]
  split
  · simp
  · rw [decF, dif_pos (by omega)]
    simp

mutual
theorem em_kinds : ∀ (t : PT) (b u : Nat), t.wf → ∀ n ∈ t.em b u, (0 ≤ n.kind ∧ n.kind < 100) ∧ (n.kind = 19 → (u : Int) ≤ n.tok ∧ n.tok < ((u + t.lv : Nat) : Int))
  | .leaf, b, u, _, n, h => by
    rw [PT.em, List.mem_singleton] at h
    subst h
    rw [PT.lv]
    simp only
    omega
  | .node k l, b, u, hw, n, h => by
    rw [PT.wf] at hw
    rw [PT.em, List.mem_append, List.mem_singleton] at h
    rcases h with h | h
    · exact emL_kinds l b u hw.2.2 n h
    · subst h
      simp only
      omega
theorem emL_kinds : ∀ (l : List PT) (b u : Nat), wfL l → ∀ n ∈ emL b u l, (0 ≤ n.kind ∧ n.kind < 100) ∧ (n.kind = 19 → (u : Int) ≤ n.tok ∧ n.tok < ((u + lvL l : Nat) : Int))
  | [], b, u, _, n, h => by rw [emL] at h; cases h
  | t :: l, b, u, hw, n, h => by
    rw [wfL] at hw
    rw [emL, List.mem_append] at h
    rw [lvL]
    rcases h with h | h
    · have := em_kinds t _ _ hw.1 n h
      exact ⟨this.1, fun q => by have := this.2 q; omega⟩
    · have := emL_kinds l _ _ hw.2 n h
      exact ⟨this.1, fun q => by have := this.2 q; omega⟩
end

mutual
theorem tdump_len {toks : List Tok} {M : Nat} (hM : ∀ u, (textAt toks u).length ≤ M) : ∀ (t : PT) (u : Nat), t.wf → (t.dump toks u).length + 1 ≤ t.nd * (M + 16)
  | .leaf, u, _ => by
    rw [PT.dump, leafDump, PT.nd, List.length_append]
    have := hM u
    unfold textAt at this
    split <;> simp <;> omega
  | .node k l, u, hw => by
    rw [PT.wf] at hw
    have h1 := tdumpL_len hM l u hw.2.2
    have h2 := dec_two (n := k) (by omega)
    rw [PT.dump, PT.nd, Nat.succ_mul]
    simp only [List.length_append, List.length_cons, List.length_nil]
    omega
theorem tdumpL_len {toks : List Tok} {M : Nat} (hM : ∀ u, (textAt toks u).length ≤ M) : ∀ (l : List PT) (u : Nat), wfL l → (dumpL toks u l).length ≤ ndL l * (M + 16)
  | [], u, _ => by simp [dumpL]
  | t :: l, u, hw => by
    rw [wfL] at hw
    have h1 := tdump_len hM t u hw.1
    have h2 := tdumpL_len hM l (u + t.lv) hw.2
    rw [dumpL, ndL, Nat.add_mul]
    simp only [List.length_append, List.length_cons, List.length_nil]
    omega
end

mutual
/-- Its names and numbers are no longer than M, its kinds under 100. -/
def PE.fits (M : Nat) : PE → Prop
  | .mk op name module num txt _ kids _ => op < 100 ∧ name.length ≤ M ∧ module.length ≤ M ∧ txt.length ≤ M ∧ (intF num).length ≤ M ∧ num.natAbs < 10 ^ 60 ∧ fitsE M kids
def fitsE (M : Nat) : List PE → Prop
  | [] => True
  | e :: l => e.fits M ∧ fitsE M l
end

theorem decV_small {toks : List Tok} (hN : ∀ t ∈ toks, t.kind = 3 → numTok t.text) (h0 : 0 < toks.length) {u : Nat} (hk : kindAt toks u = 3) : decV (textAt toks u) < 10 ^ 60 := by
  have h := hN _ (peek_mem h0 u) hk
  exact Nat.lt_of_lt_of_le (decV_lt _ h.1) (Nat.pow_le_pow_right (by omega) h.2.2.1)

mutual
theorem CE.fits {toks : List Tok} {M : Nat} (h0 : 0 < toks.length) (hN : ∀ t ∈ toks, t.kind = 3 → numTok t.text) (hM : ∀ u, (textAt toks u).length ≤ M) (h1 : 1 ≤ M) {cl : Bool} : ∀ (e : CE) (u : Nat), e.ok toks cl u → (e.pe toks u).fits M
  | .num, u, h => by
    rw [CE.ok] at h
    rw [CE.pe, PE.fits, intF_nat, show decF (decV (textAt toks u)) = textAt toks u from (hN _ (peek_mem h0 u) h).dec]
    have := decV_small hN h0 h
    exact ⟨by omega, by simp, by simp, hM u, hM u, by omega, by rw [fitsE]; trivial⟩
  | .truth, u, h => by rw [CE.pe, PE.fits, fitsE]; exact ⟨by omega, by simp, by simp, by simp, by simpa [intF, decF] using h1, by simp, trivial⟩
  | .res, u, h => by rw [CE.pe, PE.fits, fitsE]; exact ⟨by omega, by simp, by simp, by simp, by simpa [intF, decF] using h1, by simp, trivial⟩
  | .nam, u, h => by rw [CE.pe, PE.fits, fitsE]; exact ⟨by omega, hM u, by simp, by simp, by simpa [intF, decF] using h1, by simp, trivial⟩
  | .group e, u, h => by
    rw [CE.ok] at h
    rw [CE.pe]
    exact CE.fits h0 hN hM h1 e _ h.2
  | .un e, u, h => by
    rw [CE.ok] at h
    rw [CE.pe, PE.fits, fitsE, fitsE]
    exact ⟨by split <;> omega, by simp, by simp, by simp, by simpa [intF, decF] using h1, by simp, CE.fits h0 hN hM h1 e _ h.2, trivial⟩
  | .bin a b, u, h => by
    rw [CE.ok] at h
    rw [CE.pe, PE.fits, fitsE, fitsE, fitsE]
    have hi : binL.idxOf (textAt toks (u + a.pt.lv)) ≤ binL.length := List.idxOf_le_length
    have hl : binL.length = 14 := rfl
    exact ⟨by omega, by simp, by simp, by simp, by simpa [intF, decF] using h1, by simp, CE.fits h0 hN hM h1 a _ h.2.1, CE.fits h0 hN hM h1 b _ h.2.2, trivial⟩
  | .iff a b c, u, h => by
    rw [CE.ok] at h
    rw [CE.pe, PE.fits, fitsE, fitsE, fitsE, fitsE]
    exact ⟨by omega, by simp, by simp, by simp, by simpa [intF, decF] using h1, by simp, CE.fits h0 hN hM h1 a _ h.2.1, CE.fits h0 hN hM h1 b _ h.2.2.1, CE.fits h0 hN hM h1 c _ h.2.2.2, trivial⟩
  | .lett a b, u, h => by
    rw [CE.ok] at h
    rw [CE.pe, PE.fits, fitsE, fitsE, fitsE]
    exact ⟨by omega, hM _, by simp, by simp, by simpa [intF, decF] using h1, by simp, CE.fits h0 hN hM h1 a _ h.2.2.1, CE.fits h0 hN hM h1 b _ h.2.2.2, trivial⟩
  | .asrt a b, u, h => by
    rw [CE.ok] at h
    rw [CE.pe, PE.fits, fitsE, fitsE, fitsE]
    exact ⟨by omega, by simp, by simp, by simp, by simpa [intF, decF] using h1, by simp, CE.fits h0 hN hM h1 a _ h.2.1, CE.fits h0 hN hM h1 b _ h.2.2, trivial⟩
  | .call q l, u, h => by
    rw [CE.ok] at h
    rw [CE.pe]
    cases q with
    | true =>
      rw [if_pos rfl, PE.fits]
      exact ⟨by omega, hM _, hM _, by simp, by simpa [intF, decF] using h1, by simp, argsFits h0 hN hM h1 l _ h.2.2.2.2.2⟩
    | false =>
      rw [if_neg (by decide), PE.fits]
      exact ⟨by omega, hM _, by simp, by simp, by simpa [intF, decF] using h1, by simp, argsFits h0 hN hM h1 l _ h.2.2.2.2⟩
theorem argsFits {toks : List Tok} {M : Nat} (h0 : 0 < toks.length) (hN : ∀ t ∈ toks, t.kind = 3 → numTok t.text) (hM : ∀ u, (textAt toks u).length ≤ M) (h1 : 1 ≤ M) {cl : Bool} : ∀ (l : List CE) (u : Nat), argsOk toks cl u l → fitsE M (argsPE toks u l)
  | [], u, _ => by rw [argsPE, fitsE]; trivial
  | e :: l, u, h => by
    rw [argsOk] at h
    rw [argsPE, fitsE]
    exact ⟨CE.fits h0 hN hM h1 e _ h.1, argsFits h0 hN hM h1 l _ h.2⟩
end

theorem ndL_app (a b : List PT) : ndL (a ++ b) = ndL a + ndL b := ndL_append a b
mutual
def PE.sizeG : PE → Nat
  | .mk _ _ _ _ _ _ kids _ => 1 + sizeGE kids
def sizeGE : List PE → Nat
  | [] => 0
  | e :: l => e.sizeG + sizeGE l
end
mutual
theorem CE.sizeG_le (toks : List Tok) : ∀ (e : CE) (u : Nat), (e.pe toks u).sizeG ≤ e.pt.nd
  | .num, u => by simp [CE.pe, PE.sizeG, sizeGE, CE.pt, PT.nd, ndL]
  | .truth, u => by simp [CE.pe, PE.sizeG, sizeGE, CE.pt, PT.nd, ndL]
  | .res, u => by simp [CE.pe, PE.sizeG, sizeGE, CE.pt, PT.nd, ndL]
  | .nam, u => by simp [CE.pe, PE.sizeG, sizeGE, CE.pt, PT.nd, ndL]
  | .group e, u => by
    have := CE.sizeG_le toks e (u + 1)
    simp only [CE.pe, CE.pt, PT.nd, ndL]
    omega
  | .un e, u => by
    have := CE.sizeG_le toks e (u + 1)
    simp only [CE.pe, PE.sizeG, sizeGE, CE.pt, PT.nd, ndL]
    omega
  | .bin a b, u => by
    have h1 := CE.sizeG_le toks a u
    have h2 := CE.sizeG_le toks b (u + a.pt.lv + 1)
    simp only [CE.pe, PE.sizeG, sizeGE, CE.pt, PT.nd, ndL]
    omega
  | .iff a b c, u => by
    have h1 := CE.sizeG_le toks a (u + 1)
    have h2 := CE.sizeG_le toks b (u + 1 + a.pt.lv + 1)
    have h3 := CE.sizeG_le toks c (u + 1 + a.pt.lv + 1 + b.pt.lv + 1)
    simp only [CE.pe, PE.sizeG, sizeGE, CE.pt, PT.nd, ndL]
    omega
  | .lett a b, u => by
    have h1 := CE.sizeG_le toks a (u + 3)
    have h2 := CE.sizeG_le toks b (u + 3 + a.pt.lv + 1)
    simp only [CE.pe, PE.sizeG, sizeGE, CE.pt, PT.nd, ndL]
    omega
  | .asrt a b, u => by
    have h1 := CE.sizeG_le toks a (u + 1)
    have h2 := CE.sizeG_le toks b (u + 1 + a.pt.lv + 1)
    simp only [CE.pe, PE.sizeG, sizeGE, CE.pt, PT.nd, ndL]
    omega
  | .call q l, u => by
    have h : ∀ u, sizeGE (argsPE toks u l) ≤ ndL (argsPT l) := fun u => argsSizeG_le toks l u
    cases q with
    | true =>
      have := h (u + 4)
      simp only [CE.pe, if_pos, PE.sizeG, CE.pt, PT.nd, ndL_app, ndL]
      omega
    | false =>
      have := h (u + 2)
      simp only [CE.pe, PE.sizeG, CE.pt, PT.nd, ndL_app, ndL, Bool.false_eq_true, if_false]
      omega
theorem argsSizeG_le (toks : List Tok) : ∀ (l : List CE) (u : Nat), sizeGE (argsPE toks u l) ≤ ndL (argsPT l)
  | [], u => by simp [argsPE, sizeGE]
  | [e], u => by
    have := CE.sizeG_le toks e u
    simp only [argsPE, sizeGE, argsPT_one, ndL]
    omega
  | e :: f :: l, u => by
    have h1 := CE.sizeG_le toks e u
    have h2 := argsSizeG_le toks (f :: l) (u + e.pt.lv + 1)
    rw [argsPE, sizeGE, argsPT_two, ndL, ndL]
    simp only [PT.nd]
    omega
end

theorem head_len {op : Nat} {nm md nu : List UInt8} {ys : Bool} {M : Nat} (h1 : op < 100) (h2 : nm.length ≤ M) (h3 : md.length ≤ M) (h4 : nu.length ≤ M) : (headF op nm md nu ys).length ≤ 3 * M + 20 := by
  have := dec_two h1
  unfold headF
  simp only [List.length_append, List.length_cons, List.length_nil]
  split <;> split <;> split <;> (try split) <;> (try split) <;> simp <;> omega
mutual
theorem dumpT_len {M : Nat} : ∀ (e : PE), e.fits M → e.dumpT.length + 1 ≤ e.sizeG * (3 * M + 30)
  | .mk op name module num txt yes kids a, h => by
    rw [PE.fits] at h
    have h1 := dumpTE_len kids h.2.2.2.2.2.2
    have h2 := head_len (ys := yes) h.1 h.2.1 h.2.2.1 h.2.2.2.1
    rw [PE.dumpT, PE.sizeG, Nat.add_mul]
    simp only [List.length_append, List.length_cons, List.length_nil]
    omega
theorem dumpTE_len {M : Nat} : ∀ (l : List PE), fitsE M l → (dumpTE l).length ≤ sizeGE l * (3 * M + 30)
  | [], _ => by simp [dumpTE]
  | e :: l, h => by
    rw [fitsE] at h
    have h1 := dumpT_len e h.1
    have h2 := dumpTE_len l h.2
    rw [dumpTE, sizeGE, Nat.add_mul]
    simp only [List.length_append, List.length_cons, List.length_nil]
    omega
end
end Go.Proofs.YtdjkibbnkklajaaGreatDoor

namespace Go.Proofs.YtdjkibbnkklajaaGreatDoor
open Go.RowKit Go

def boxA (op : Nat) (NM MD : ByteArray) (ng : Bool) (mv : Value) (ys : Bool) (kv : Value) (a_ : Nat) : Array Value := #[.int .i64 op, .string NM, .string MD, .bool ng, mv, .bool ys, kv, .int .i64 a_]
theorem boxA_cells {w : World} {b op : Nat} {NM MD : ByteArray} {ng ys : Bool} {mv kv : Value} {a_ : Nat} (h : w.heap[b]? = some (.cells (boxA op NM MD ng mv ys kv a_) 37 (0, 0))) :
    w.cell? ⟨b, 0, none⟩ = some (.int .i64 op) ∧ w.cell? ⟨b, 1, none⟩ = some (.string NM) ∧ w.cell? ⟨b, 2, none⟩ = some (.string MD) ∧ w.cell? ⟨b, 3, none⟩ = some (.bool ng) ∧ w.cell? ⟨b, 4, none⟩ = some mv ∧ w.cell? ⟨b, 5, none⟩ = some (.bool ys) ∧ w.cell? ⟨b, 6, none⟩ = some kv ∧ w.cell? ⟨b, 7, none⟩ = some (.int .i64 a_) := by
  refine ⟨?_, ?_, ?_, ?_, ?_, ?_, ?_, ?_⟩ <;> (rw [Lib.cell_of_heap h]; rfl)

theorem fitsE_mem {M : Nat} : ∀ {l : List PE} {e : PE}, fitsE M l → e ∈ l → e.fits M
  | x :: l, e, h, hm => by
    rw [fitsE] at h
    rcases List.mem_cons.1 hm with rfl | hm
    · exact h.1
    · exact fitsE_mem h.2 hm
theorem PE.fits_def {M : Nat} {e : PE} (h : e.fits M) : e.op < 100 ∧ e.num.natAbs < 10 ^ 60 ∧ fitsE M e.kids := by
  cases e
  rw [PE.fits] at h
  exact ⟨h.1, h.2.2.2.2.2.1, h.2.2.2.2.2.2⟩

/-- How far a dump has come. -/
def EdSt (w : World) (B' b : Nat) (bx : Array Value) (acc : List UInt8) (W : World) : Prop :=
  Bld B' b acc W ∧ W.heap[w.heap.size]? = some (.cells bx 37 (0, 0)) ∧ Below B' w W ∧ Lib.OthersKept 5 (some b) w W
theorem EdSt.write {w W W' : World} {B' b : Nat} {bx : Array Value} {acc acc' : List UInt8} (h : EdSt w B' b bx acc W) (h1 : Bld B' b acc' W') (h2 : Below B' W W') (h3 : Lib.OthersKept 5 (some b) W W') : EdSt w B' b bx acc' W' :=
  ⟨h1, h.1.block h3 h.2.1 (by decide) (by decide), h.2.2.1.trans h2, h.2.2.2.trans h3⟩

theorem Bld.belowAll {B b : Nat} {acc : List UInt8} {w w' : World} (h : Bld B b acc w) (hb : Below w.heap.size w w') : Bld B b acc w' := by
  have key : ∀ p, Lib.BuilderAtF 75 5 B b p (Lib.byteCells acc) w → Lib.BuilderAtF 75 5 B b p (Lib.byteCells acc) w' := by
    rintro p ⟨h1, v, h2, ⟨h3, h4⟩, h5⟩
    refine ⟨h1, v, (hb.block b h.lt).trans h2, ⟨h3, ?_⟩, h5⟩
    rcases h4 with h4 | ⟨g, cap, cur, fz, q1, q2, q3, q4⟩
    · exact Or.inl h4
    · exact Or.inr ⟨g, cap, cur, fz, q1, q2, (hb.block g (Array.getElem?_eq_some_iff.1 q3).1).trans q3, q4⟩
  rcases h with h | h
  · exact Or.inl (key _ h)
  · exact Or.inr (key _ h)
theorem EdSt.below {w W W' : World} {B' b : Nat} {bx : Array Value} {acc : List UInt8} (h : EdSt w B' b bx acc W) (hb : Below W.heap.size W W') : EdSt w B' b bx acc W' :=
  ⟨h.1.belowAll hb, (hb.block _ (Array.getElem?_eq_some_iff.1 h.2.1).1).trans h.2.1, h.2.2.1.trans (hb.mono (Nat.le_trans (Nat.le_trans h.1.le (Nat.le_of_lt h.1.lt)) (Nat.le_refl _))), fun k o hk hkb he => by
    have h1 := h.2.2.2 k o hk hkb he
    exact (hb.block k (Array.getElem?_eq_some_iff.1 h1).1).trans h1⟩
theorem EdSt.alloc {w W : World} {B' b : Nat} {bx : Array Value} {acc : List UInt8} (h : EdSt w B' b bx acc W) (o : Obj) : EdSt w B' b bx acc (W.alloc o) := h.below (below_new W o)

/-- What dump does at an expression. -/
def EdDoes (e : PE) : Prop := ∀ (B B' b : Nat) (am : Option Addr) (wn cm : Nat) (ae : Option Addr) (ce : Nat) (acc : List UInt8) (w : World), EAt XA (fun b => b < B) w (.slice am wn cm) (.slice ae e.kids.length ce) e → B ≤ B' → Bld B' b acc w → B' ≤ w.heap.size → acc.length + e.dump.length ≤ 1099511627776 → e.size ≤ 1099511627776 →
    Calls Tryz.prog 23 #[.agg #[.int .i64 e.op, .string ⟨e.name.toArray⟩, .string ⟨e.module.toArray⟩, .bool (decide (e.num < 0)), .slice am wn cm, .bool e.yes, .slice ae e.kids.length ce, .int .i64 e.at_], .pointer (some ⟨b, 0, none⟩)] w (DmpPost B' b (acc ++ e.dump) w)
def EdAll (ks : List PE) : Prop := ∀ x ∈ ks, EdDoes x

theorem formatBool_eq (b : Bool) : Lib.formatBool b = if b = true then [116, 114, 117, 101] else [102, 97, 108, 115, 101] := by cases b <;> rfl
theorem yesF_two (b : Bool) : yesF 2 b = [32] ++ Lib.formatBool b := by cases b <;> rfl

set_option maxHeartbeats 1000000 in
set_option maxRecDepth 100000 in
theorem edump_step (e : PE) (hop : e.op < 100) (hnm : e.num.natAbs < 10 ^ 60) (IH : EdAll e.kids) : EdDoes e := by
  intro B B' b am wn cm ae ce acc w h hBB hbd hB hdl hz
  have hdef := e.size_def
  have hdd := e.dump_def
  obtain ⟨hnum, ae', ce', hv, hcap, hf⟩ := h.form
  simp only [Value.slice.injEq] at hv
  obtain ⟨rfl, -, rfl⟩ := hv
  have hfew := sizeE_few e.kids
  have hkl : e.kids.length ≤ 1099511627776 := by omega
  have hzk : sizeE e.kids + 1 ≤ 1099511627776 := by omega
  have HIT := Lib.hid (fun W => itoa_any e.op hop W)
  have HST := Lib.hid (fun W (hW : Below B' w W) => zstr_any (fun b => b < B) am wn cm e.num W (XA.frame hnum (Alk.ofB hW (fun b hb => by omega))) hnm)
  rw [head_parts] at hdd
  have HF := Lib.hid hf
  clear hnum hdef hz hop hnm h hf
  generalize decF e.op = dg at HIT hdd
  generalize intF e.num = tx at HST hdd
  generalize decide (e.num < 0) = ng at *
  generalize e.op = op at *
  generalize e.name = nm at *
  generalize e.module = md at *
  generalize e.yes = ys at *
  generalize e.at_ = a_ at *
  generalize e.dump = out at *
  generalize hkk : e.kids = ks at *
  obtain ⟨NM, rfl, eN⟩ := bytes_of nm
  obtain ⟨MD, rfl, eM⟩ := bytes_of md
  obtain ⟨TX, rfl, eT⟩ := bytes_of tx
  obtain ⟨DG, rfl, eD⟩ := bytes_of dg
  have HIT : Hid (∀ W, Calls Tryz.prog 42 #[.int .i64 op] W fun r w' => r = .returned (.string DG) ∧ w' = W) := Lib.hid fun W => (HIT.out W).mono fun r w' h => ⟨by rw [h.1, eD], h.2⟩
  have HST : Hid (∀ W, Below B' w W → Calls Tryz.prog 43 #[.agg #[.bool ng, .slice am wn cm]] W fun r w' => r = .returned (.string TX) ∧ Below W.heap.size W w') := Lib.hid fun W hW => (HST.out W hW).mono fun r w' h => ⟨by rw [h.1, eT], h.2⟩
  rw [eN, eM]
  have hln := congrArg List.length hdd
  simp only [List.length_append, size_list, List.length_cons, List.length_nil] at hln
  have HDD := Lib.hid hdd
  have hbd0 : acc.length + DG.size + (nameF NM.data.toList MD.data.toList).length + (numTF op TX.data.toList).length + (yesF op ys).length + (dumpE ks).length + 2 ≤ 1099511627776 := by omega
  have H0 : Hid (EdSt w B' b (boxA op NM MD ng (.slice am wn cm) ys (.slice ae ks.length ce) a_) acc (w.alloc (.cells (boxA op NM MD ng (.slice am wn cm) ys (.slice ae ks.length ce) a_) 37))) := Lib.hid ⟨hbd.alloc _, heap_alloc_new w _, (Below.refl _ w).alloc hB _, (Lib.OthersKept.refl 5 (some b) w).alloc _⟩
  clear hdd hln hdl eN eM eT eD hbd
  have hS0 : ((ByteArray.mk #[91]) ++ DG).data.toList = [91] ++ DG.data.toList := by simp
  have HS0 := Lib.hid hS0
  have hS0z : ((ByteArray.mk #[91]) ++ DG).size = 1 + DG.size := by rw [← size_list, hS0]; simp [size_list]; omega
  have HS0z := Lib.hid hS0z
  clear hS0 hS0z
  have e0 := (boxA_cells H0.out.2.1).1
  go_enter Tryz.func23, Tryz.ntmps23
  go_upto_block 0 with (first | (go_at_call 42; refine (HIT.out _).mono ?_; rintro e w3 ⟨rfl, rfl⟩) | (go_at_call 41; refine (write_any B' b acc (ByteArray.mk #[91] ++ DG) _ H0.out.1 (by rw [HS0z.out]; omega) (by simp; omega)).mono ?_; rintro e w4 ⟨rfl, hb4, hl4, ho4⟩))
  have hst := H0.out.write hb4 hl4 ho4
  rw [HS0.out] at hst
  generalize hA1 : acc ++ ([91] ++ DG.data.toList) = A1 at hst
  have HA1 := Lib.hid hA1
  have hl1 : A1.length = acc.length + DG.size + 1 := by rw [← hA1]; simp only [List.length_append, size_list, List.length_cons, List.length_nil]; omega
  have hbd1 : A1.length + (nameF NM.data.toList MD.data.toList).length + (numTF op TX.data.toList).length + (yesF op ys).length + (dumpE ks).length + 1 ≤ 1099511627776 := by omega
  clear hb4 hl4 ho4 H0 HS0 HS0z HIT e0 hA1 hl1 hbd0
  go_cut [12] (fun s wc => EdSt w B' b (boxA op NM MD ng (.slice am wn cm) ys (.slice ae ks.length ce) a_) (A1 ++ nameF NM.data.toList MD.data.toList) wc)
  case first =>
    have hz4 := hst.2.2.1.size
    obtain ⟨y0, y1, y2, -⟩ := boxA_cells hst.2.1
    have HS4 := Lib.hid hst
    clear hst
    go_upto_if 12 with fail
    generalize ht : (!MD.toList.isEmpty) = t
    cases t with
    | false =>
      have hm : MD.data.toList = [] := Classical.byContradiction fun q => by rw [empty_no q] at ht; cases ht
      clear ht
      by_cases hn : NM.data.toList = []
      · have hne := empty_yes hn
        have HN := Lib.hid (nameF_no hm hn)
        clear hm hn
        go_wp2
        go_meet
        rw [HN.out, List.append_nil]
        exact HS4.out
      · have hne := empty_no hn
        have HN := Lib.hid (nameF_nm hm hn)
        clear hm hn
        rw [HN.out] at hbd1
        simp only [List.length_append, size_list, List.length_cons, List.length_nil] at hbd1
        have HW : Hid (((ByteArray.mk #[32]) ++ NM).data.toList = [32] ++ NM.data.toList) := Lib.hid (by simp)
        go_wp2_with (go_at_call 41; refine (write_any B' b A1 (ByteArray.mk #[32] ++ NM) _ HS4.out.1 (by rw [← size_list, HW.out]; simp [size_list]; omega) (by omega)).mono ?_; rintro e w5 ⟨rfl, hb5, hl5, ho5⟩)
        go_meet
        rw [HN.out, ← HW.out]
        exact HS4.out.write hb5 hl5 ho5
    | true =>
      have hm : MD.data.toList ≠ [] := fun q => by rw [empty_yes q] at ht; cases ht
      have HN := Lib.hid (nameF_md (nm := NM.data.toList) hm)
      rw [HN.out] at hbd1
      simp only [List.length_append, size_list, List.length_cons, List.length_nil] at hbd1
      clear hm ht
      have HW : Hid (((ByteArray.mk #[32]) ++ MD ++ (ByteArray.mk #[46]) ++ NM).data.toList = [32] ++ MD.data.toList ++ [46] ++ NM.data.toList) := Lib.hid (by simp)
      go_wp2_with (go_at_call 41; refine (write_any B' b A1 (ByteArray.mk #[32] ++ MD ++ ByteArray.mk #[46] ++ NM) _ HS4.out.1 (by rw [← size_list, HW.out]; simp [size_list]; omega) (by omega)).mono ?_; rintro e w5 ⟨rfl, hb5, hl5, ho5⟩)
      go_meet
      rw [HN.out, ← HW.out]
      exact HS4.out.write hb5 hl5 ho5
  case rest =>
    obtain ⟨wo, rfl⟩ : ∃ wo : World, wo = wc := ⟨_, rfl⟩
    clear hst
    generalize hA2 : A1 ++ nameF NM.data.toList MD.data.toList = A2 at hcut
    have HA2 := Lib.hid hA2
    have hl2 : A2.length = A1.length + (nameF NM.data.toList MD.data.toList).length := by rw [← hA2, List.length_append]
    have hbd2 : A2.length + (numTF op TX.data.toList).length + (yesF op ys).length + (dumpE ks).length + 1 ≤ 1099511627776 := by omega
    clear hA2 hl2 hbd1
    have z0 := (boxA_cells hcut.2.1).1
    go_upto_block 1 with fail
    go_cut [36] (fun s wc => EdSt w B' b (boxA op NM MD ng (.slice am wn cm) ys (.slice ae ks.length ce) a_) (A2 ++ (numTF op TX.data.toList ++ yesF op ys)) wc)
    case first =>
      have hz4 := hcut.2.2.1.size
      obtain ⟨y0, y1, y2, y3, y4, y5, -, -⟩ := boxA_cells hcut.2.1
      have HS4 := Lib.hid hcut
      clear hcut
      by_cases h1 : op = 1
      · subst h1
        have HN : Hid (numTF 1 TX.data.toList ++ yesF 1 ys = [32] ++ TX.data.toList) := Lib.hid (by simp [numTF, yesF])
        have hbd3 : A2.length + 1 + TX.size + 1 ≤ 1099511627776 := by
          have := congrArg List.length HN.out
          simp only [List.length_append, size_list, List.length_cons, List.length_nil] at this
          omega
        have HW : Hid (((ByteArray.mk #[32]) ++ TX).data.toList = [32] ++ TX.data.toList) := Lib.hid (by simp)
        have HZ := HST.out wo HS4.out.2.2.1
        have HSZ := Lib.hid HZ
        clear HZ
        go_wp2_with (first | (go_at_call 43; refine HSZ.out.mono ?_; rintro e w5 ⟨rfl, hb5⟩; have HS5 := HS4.out.below hb5; have hz5 := hb5.size) | (go_at_call 41; refine (write_any B' b A2 (ByteArray.mk #[32] ++ TX) _ HS5.1 (by rw [← size_list, HW.out]; simp [size_list]; omega) (by omega)).mono ?_; rintro e w6 ⟨rfl, hb6, hl6, ho6⟩))
        go_meet
        rw [HN.out, ← HW.out]
        exact HS5.write hb6 hl6 ho6
      · have h1I : ((op : Int) == 1) = false := beq_eq_false_iff_ne.2 (by omega)
        by_cases h2 : op = 2
        · subst h2
          have HN : Hid (numTF 2 TX.data.toList ++ yesF 2 ys = [32] ++ Lib.formatBool ys) := Lib.hid (by rw [yesF_two]; simp [numTF])
          obtain ⟨FB, hFB, eFB⟩ := bytes_of (Lib.formatBool ys)
          have HFB := Lib.hid (fun W => Tryz.strconv_FormatBool ys W)
          rw [eFB] at HFB
          have hfl : FB.size ≤ 5 := by rw [← size_list, hFB]; cases ys <;> decide
          rw [← hFB] at HN
          have hbd3 : A2.length + 1 + FB.size + 1 ≤ 1099511627776 := by
            have := congrArg List.length HN.out
            simp only [List.length_append, size_list, List.length_cons, List.length_nil] at this
            omega
          have HW : Hid (((ByteArray.mk #[32]) ++ FB).data.toList = [32] ++ FB.data.toList) := Lib.hid (by simp)
          clear hFB eFB h1
          go_wp2_with (first | (go_at_call 44; refine (HFB.out _).mono ?_; rintro e w5 ⟨rfl, rfl⟩) | (go_at_call 41; refine (write_any B' b A2 (ByteArray.mk #[32] ++ FB) _ HS4.out.1 (by rw [← size_list, HW.out]; simp [size_list]; omega) (by omega)).mono ?_; rintro e w6 ⟨rfl, hb6, hl6, ho6⟩))
          go_meet
          rw [HN.out, ← HW.out]
          exact HS4.out.write hb6 hl6 ho6
        · have h2I : ((op : Int) == 2) = false := beq_eq_false_iff_ne.2 (by omega)
          have HN : Hid (numTF op TX.data.toList ++ yesF op ys = []) := Lib.hid (by simp [numTF, yesF, h1, h2])
          clear h1 h2
          go_wp2
          go_meet
          rw [HN.out, List.append_nil]
          exact HS4.out
    case rest =>
      obtain ⟨wo, rfl⟩ : ∃ wo : World, wo = wc := ⟨_, rfl⟩
      generalize hA3 : A2 ++ (numTF op TX.data.toList ++ yesF op ys) = A3 at hcut
      have hl3 : A3.length = A2.length + (numTF op TX.data.toList).length + (yesF op ys).length := by rw [← hA3, List.length_append, List.length_append]; omega
      have hbd3 : A3.length + (dumpE ks).length + 1 ≤ 1099511627776 := by omega
      have HAA : Hid (acc ++ out = A3 ++ dumpE ks ++ [93]) := Lib.hid (by rw [HDD.out, ← hA3, ← HA2.out, ← HA1.out]; simp)
      have z6 := (boxA_cells hcut.2.1).2.2.2.2.2.2.1
      have HC := Lib.hid hcut
      clear hA3 hl3 hbd2 HST HDD HA1 HA2 hcut z0
      go_upto_block 2 with fail
      go_wp2_with fail
      go_loopw [55] (fun q wr => ∃ k : Nat, k ≤ ks.length ∧ q = .int .i64 k ∧ EdSt w B' b (boxA op NM MD ng (.slice am wn cm) ys (.slice ae ks.length ce) a_) (A3 ++ dumpE (ks.take k)) wr) (fun q _ => ks.length - (intOf q).toNat)
      case atStart => exact ⟨0, Nat.zero_le _, rfl, by simpa [dumpE] using HC.out⟩
      case round =>
        obtain ⟨k, hk, rfl, hst⟩ := hrel
        have hbl := hst.2.2.1
        have hz := hbl.size
        have hspl := congrArg List.length (dumpE_append (ks.take k) (ks.drop k))
        rw [List.take_append_drop, List.length_append] at hspl
        by_cases hlt : k < ks.length
        · obtain ⟨b2, off, rfl, hbB, hbw, hkid⟩ := HF.out (by omega)
          obtain ⟨m, kv, hE, hc⟩ := hkid k hlt
          have hmem : ks[k] ∈ ks := List.getElem_mem hlt
          have hle := sizeE_mem ks _ hmem
          obtain ⟨am1, wn1, cm1, ae1, ce1, rfl, rfl⟩ := hE.slX
          have IHx := IH _ hmem B B' b am1 wn1 cm1 ae1 ce1
          have hstep : dumpE (ks.take (k + 1)) = dumpE (ks.take k) ++ ([32] ++ ks[k].dump) := by rw [take_succ_at hlt, dumpE_append]; simp [dumpE]
          have hlen : (dumpE (ks.take k)).length + 1 + ks[k].dump.length ≤ (dumpE ks).length := by
            rw [hspl, List.drop_eq_getElem_cons hlt, dumpE]
            simp
            omega
          have hxs : ks[k].size ≤ 1099511627776 := by omega
          generalize ks[k] = x at hE hc hle IHx hstep hlen hxs
          have y0 := (hbl.cell (p := ⟨b2, off + k * 8, none⟩) (by show b2 < B'; omega)).trans (hc 0 _ rfl)
          have y1 := (hbl.cell (p := ⟨b2, off + k * 8 + 1, none⟩) (by show b2 < B'; omega)).trans (hc 1 _ rfl)
          have y2 := (hbl.cell (p := ⟨b2, off + k * 8 + 2, none⟩) (by show b2 < B'; omega)).trans (hc 2 _ rfl)
          have y3 := (hbl.cell (p := ⟨b2, off + k * 8 + 3, none⟩) (by show b2 < B'; omega)).trans (hc 3 _ rfl)
          have y4 := (hbl.cell (p := ⟨b2, off + k * 8 + 4, none⟩) (by show b2 < B'; omega)).trans (hc 4 _ rfl)
          have y5 := (hbl.cell (p := ⟨b2, off + k * 8 + 5, none⟩) (by show b2 < B'; omega)).trans (hc 5 _ rfl)
          have y6 := (hbl.cell (p := ⟨b2, off + k * 8 + 6, none⟩) (by show b2 < B'; omega)).trans (hc 6 _ rfl)
          have y7 := (hbl.cell (p := ⟨b2, off + k * 8 + 7, none⟩) (by show b2 < B'; omega)).trans (hc 7 _ rfl)
          simp only [strV] at y1 y2
          have hAl : (A3 ++ dumpE (ks.take k)).length = A3.length + (dumpE (ks.take k)).length := List.length_append
          have HS2 := Lib.hid hstep
          generalize dumpE (ks.take k) = D at hst hspl hlen hAl HS2
          have HE1 := Lib.hid (hst.alloc (.cells (boxA x.op ⟨x.name.toArray⟩ ⟨x.module.toArray⟩ (decide (x.num < 0)) (.slice am1 wn1 cm1) x.yes (.slice ae1 x.kids.length ce1) x.at_) 37))
          have HN1 := Lib.hid (heap_alloc_new wr (.cells (boxA x.op ⟨x.name.toArray⟩ ⟨x.module.toArray⟩ (decide (x.num < 0)) (.slice am1 wn1 cm1) x.yes (.slice ae1 x.kids.length ce1) x.at_) 37))
          have hEf := fun (W : World) (hW : Below B' w W) => EAt.frame (Alk.ofB hW (fun b hb => by omega)) hE
          have HEF := Lib.hid hEf
          have hAD : (A3 ++ D).length + 1 + x.dump.length ≤ 1099511627776 := by omega
          have hkI : (k : Int) < (ks.length : Int) := by omega
          clear hkid hc hE hstep hspl hlen hAl hst hEf hmem
          go_upto_region 15 with (go_at_call 41; refine (write_any B' b (A3 ++ D) ⟨#[32]⟩ _ HE1.out.1 (by show (A3 ++ D).length + 1 ≤ 140737488355328; omega) (by simp; omega)).mono ?_; rintro e w5 ⟨rfl, hb5, hl5, ho5⟩)
          have hst5 := HE1.out.write hb5 hl5 ho5
          obtain ⟨r0, r1, r2, r3, r4, r5, r6, r7⟩ := boxA_cells (HE1.out.1.block ho5 HN1.out (by decide) (by decide))
          have hz5 := hst5.2.2.1.size
          have HI := Lib.hid (IHx _ w5 (HEF.out w5 hst5.2.2.1) hBB hst5.1 (by omega) (by rw [List.length_append]; exact hAD) hxs)
          have HS5 := Lib.hid hst5
          clear hst5 hb5 hl5 ho5 HE1 HN1 HEF y0 y1 y2 y3 y4 y5 y6 y7 hbl IHx
          go_wp2_with (go_at_call 23; refine HI.out.mono ?_; rintro e w6 ⟨rfl, hb6, hl6, ho6⟩)
          refine ⟨⟨k + 1, by omega, by go_num, ?_⟩, by simp [intOf]; omega⟩
          rw [HS2.out, ← List.append_assoc, ← List.append_assoc]
          exact HS5.out.write hb6 hl6 ho6
        · obtain rfl : k = ks.length := by omega
          have hkI : decide ((ks.length : Int) < (ks.length : Int)) = false := decide_eq_false (by omega)
          rw [List.take_length] at hst
          have HSS := Lib.hid hst
          have hal : (A3 ++ dumpE ks).length + 1 ≤ 140737488355328 := by rw [List.length_append]; omega
          clear hst hspl hbl
          go_wp2_with (go_at_call 41; refine (write_any B' b (A3 ++ dumpE ks) ⟨#[93]⟩ _ HSS.out.1 hal (by omega)).mono ?_; rintro e w5 ⟨rfl, hb5, hl5, ho5⟩)
          go_end0
          refine ⟨rfl, ?_, HSS.out.2.2.1.trans hl5, HSS.out.2.2.2.trans ho5⟩
          rw [HAA.out]
          exact hb5

theorem edump_any {M : Nat} : ∀ (n : Nat) (e : PE), SizeOf.sizeOf e < n → e.fits M → EdDoes e
  | 0, e, hs, _ => absurd hs (by omega)
  | n + 1, e, hs, hf => edump_step e (PE.fits_def hf).1 (PE.fits_def hf).2.1 fun x hx => edump_any n x (by have := kids_sizeOf e x hx; omega) (fitsE_mem (PE.fits_def hf).2.2 hx)
end Go.Proofs.YtdjkibbnkklajaaGreatDoor
