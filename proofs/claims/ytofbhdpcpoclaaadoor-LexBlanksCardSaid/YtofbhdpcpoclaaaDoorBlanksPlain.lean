/- Blanks and remarks put between tokens: the tokens stay. No program, no condition. -/
import Derived.Test.YtofbhdpcpoclaaaDoorLexWhole
import Derived.Test.YtofbhdpcpoclaaaDoorRefLex3
namespace Go.Proofs.YtofbhdpcpoclaaaDoor

def insF (k : Int) : List UInt8 :=
  if k.tmod 4 = 1 then [32, 9, 13, 10] else if k.tmod 4 = 2 then [10, 45, 45, 108, 101, 116, 32, 39, 120, 10] else if k.tmod 4 = 3 then [32, 45, 45, 32, 45, 45, 32, 40, 32, 10, 45, 45, 10] else []

/-- The text of tokens with something ahead of each. -/
def builtF (f : Nat → Int) : Nat → List Tok → List UInt8
  | _, [] => []
  | i, t :: l => insF (f i) ++ (t.lead ++ t.text) ++ builtF f (i + 1) l

theorem insF_len (k : Int) : (insF k).length ≤ 13 := by
  unfold insF
  split
  · decide
  · split
    · decide
    · split <;> decide

theorem builtF_snoc (f : Nat → Int) : ∀ (i : Nat) (l : List Tok) (t : Tok), builtF f i (l ++ [t]) = builtF f i l ++ (insF (f (i + l.length)) ++ (t.lead ++ t.text))
  | i, [], t => by simp [builtF]
  | i, x :: l, t => by
    simp only [List.cons_append, builtF, builtF_snoc f (i + 1) l t, List.length_cons, List.append_assoc]
    rw [show i + 1 + l.length = i + (l.length + 1) by omega]

theorem builtF_len (f : Nat → Int) : ∀ (i : Nat) (l : List Tok), tokAt l l.length ≤ (builtF f i l).length ∧ (builtF f i l).length ≤ 13 * l.length + tokAt l l.length
  | i, [] => by simp [builtF, tokAt]
  | i, t :: l => by
    have := builtF_len f (i + 1) l
    have h2 := insF_len (f i)
    simp only [builtF, List.length_append, List.length_cons, tokAt_cons, tokLen]
    omega

theorem lead_ins (k : Int) (X : List UInt8) : leadF false (insF k ++ X) = (insF k).length + leadF false X := by
  unfold insF
  split
  · simp [leadF, blankB]; omega
  · split
    · simp [leadF, blankB]; omega
    · split
      · simp [leadF, blankB]; omega
      · simp

theorem lead_cons_true (c : UInt8) (r : List UInt8) : 1 ≤ leadF true (c :: r) := by
  rw [leadF]; split <;> omega

/-- What stands ahead of a byte stands ahead of it, whatever follows that byte, so long as it ends there. -/
theorem lead_move : ∀ (A : List UInt8) (m : Bool) (c : UInt8) (X Y : List UInt8), leadF m (A ++ c :: X) = A.length → leadF false (c :: Y) = 0 → leadF m (A ++ c :: Y) = A.length
  | [], m, c, X, Y, h, hy => by
    cases m with
    | false => exact hy
    | true => have := lead_cons_true c X; rw [List.nil_append] at h; rw [h] at this; simp at this
  | a :: A, true, c, X, Y, h, hy => by
    rw [List.cons_append, leadF, List.length_cons] at h ⊢
    by_cases ha : a = 10
    · rw [if_pos ha] at h ⊢
      rw [lead_move A false c X Y (by omega) hy]
      omega
    · rw [if_neg ha] at h ⊢
      rw [lead_move A true c X Y (by omega) hy]
      omega
  | a :: A, false, c, X, Y, h, hy => by
    rw [List.cons_append, leadF, List.length_cons] at h ⊢
    have hh : (A ++ c :: Y).head? = (A ++ c :: X).head? := by cases A <;> rfl
    rw [hh]
    by_cases ha : blankB a = true
    · rw [if_pos ha] at h ⊢
      rw [lead_move A false c X Y (by omega) hy]
      omega
    · rw [if_neg ha] at h ⊢
      by_cases h2 : a = 45 ∧ (A ++ c :: X).head? = some 45
      · rw [if_pos h2] at h ⊢
        rw [lead_move A true c X Y (by omega) hy]
        omega
      · rw [if_neg h2] at h
        omega

/-- Where a lead ends there is none. -/
theorem lead_stop : ∀ (A : List UInt8) (m : Bool) (c : UInt8) (X : List UInt8), leadF m (A ++ c :: X) = A.length → leadF false (c :: X) = 0
  | [], m, c, X, h => by
    cases m with
    | false => exact h
    | true => have := lead_cons_true c X; rw [List.nil_append] at h; rw [h] at this; simp at this
  | a :: A, true, c, X, h => by
    rw [List.cons_append, leadF, List.length_cons] at h
    by_cases ha : a = 10
    · rw [if_pos ha] at h; exact lead_stop A false c X (by omega)
    · rw [if_neg ha] at h; exact lead_stop A true c X (by omega)
  | a :: A, false, c, X, h => by
    rw [List.cons_append, leadF, List.length_cons] at h
    by_cases ha : blankB a = true
    · rw [if_pos ha] at h; exact lead_stop A false c X (by omega)
    · rw [if_neg ha] at h
      by_cases h2 : a = 45 ∧ (A ++ c :: X).head? = some 45
      · rw [if_pos h2] at h; exact lead_stop A true c X (by omega)
      · rw [if_neg h2] at h; omega

/-- What follows a token begins as before, or with a blank. -/
def HeadOk (R B : List UInt8) : Prop := B.head? = R.head? ∨ B.head? = some 32 ∨ B.head? = some 10

theorem take_ext {p : UInt8 → Bool} (h32 : p 32 = false) (h10 : p 10 = false) : ∀ (x R B : List UInt8), (x ++ R).takeWhile p = x → HeadOk R B → (x ++ B).takeWhile p = x
  | [], R, B, h, hh => by
    rw [List.nil_append] at h ⊢
    cases B with
    | nil => rfl
    | cons b B =>
      have hb : p b = false := by
        rcases hh with h1 | h1 | h1
        · cases R with
          | nil => simp at h1
          | cons r R =>
            simp at h1
            subst h1
            rw [← Bool.not_eq_true]
            intro q
            rw [List.takeWhile_cons_of_pos q] at h
            cases h
        · simp at h1; rw [h1]; exact h32
        · simp at h1; rw [h1]; exact h10
      rw [List.takeWhile_cons_of_neg (by rw [hb]; decide)]
  | a :: x, R, B, h, hh => by
    rw [List.cons_append] at h ⊢
    by_cases ha : p a = true
    · rw [List.takeWhile_cons_of_pos ha] at h ⊢
      injection h with _ h
      rw [take_ext h32 h10 x R B h hh]
    · rw [List.takeWhile_cons_of_neg ha] at h
      cases h

theorem take_pre {p : UInt8 → Bool} {x R : List UInt8} (h : ((x ++ R).takeWhile p).length = x.length) : (x ++ R).takeWhile p = x := by
  have h1 := List.prefix_iff_eq_take.1 (List.takeWhile_prefix (l := x ++ R) p)
  rw [h, List.take_left] at h1
  exact h1

theorem symF_len (T : List UInt8) : symF T = if signLen T = 0 then (0, 0, 20) else (4, signLen T, 0) := by
  unfold symF signLen
  cases hf : signF T with
  | none => rfl
  | some x =>
    have := (signF_some hf).2.1
    simp only
    rw [if_neg (by omega)]

theorem two_second : ∀ x ∈ twoL, x[1]? ≠ some 32 ∧ x[1]? ≠ some 10 := by decide

theorem sign_ext {x R B : List UInt8} (h : signLen (x ++ R) = x.length) (hx : x ≠ []) (hh : HeadOk R B) : signLen (x ++ B) = x.length := by
  match x, hx with
  | [c], _ =>
    have hno : ∀ y ∈ twoL, ¬ y <+: c :: R := by
      intro y hy q
      have := signLen_two hy q
      rw [List.cons_append, List.nil_append, this] at h
      simp at h
    have hno2 : ∀ y ∈ twoL, ¬ y <+: c :: B := by
      intro y hy q
      have h1 := List.prefix_iff_eq_take.1 q
      rw [two_len y hy] at h1
      cases B with
      | nil => exact two_short hy c q
      | cons b B =>
        have hy2 : y = [c, b] := h1
        have h2 := two_second y hy
        rw [hy2] at h2
        simp at h2
        rcases hh with e | e | e
        · cases R with
          | nil => simp at e
          | cons r R =>
            simp at e
            subst e
            exact hno y hy (hy2 ▸ ⟨R, rfl⟩)
        · simp at e; exact h2.1 e
        · simp at e; exact h2.2 e
    rw [List.cons_append, List.nil_append] at h ⊢
    rw [signLen_one hno] at h
    rw [signLen_one hno2]
    exact h
  | [c, d], _ =>
    have hex : ∃ y ∈ twoL, y <+: c :: d :: R := by
      apply Classical.byContradiction
      intro q
      have := signLen_one (c := c) (r := d :: R) (fun y hy hp => q ⟨y, hy, hp⟩)
      have h' : signLen (c :: d :: R) = 2 := h
      rw [h'] at this
      split at this <;> cases this
    obtain ⟨y, hy, hp⟩ := hex
    exact signLen_two hy (by
      have := (two_pair hy c d R).1 hp
      exact (two_pair hy c d B).2 this)
  | c :: d :: e :: x, _ =>
    exfalso
    have : signLen (c :: d :: e :: x ++ R) ≤ 2 := by
      unfold signLen
      cases hf : signF (c :: d :: e :: x ++ R) with
      | none => exact Nat.zero_le _
      | some y => exact (signF_some hf).2.2
    rw [h] at this
    simp at this

/-- A token is the same, whatever follows it that begins as before, or with a blank. -/
theorem tok_ext {x R B : List UInt8} {kd : Nat} (hx : x ≠ []) (h : tokF (x ++ R) = (kd, x.length, 0)) (hh : HeadOk R B) : tokF (x ++ B) = (kd, x.length, 0) := by
  obtain ⟨c, r, rfl⟩ : ∃ c r, x = c :: r := by cases x with
    | nil => exact absurd rfl hx
    | cons c r => exact ⟨c, r, rfl⟩
  rw [List.cons_append, tokF] at h ⊢
  by_cases hc : letterB c = true
  · rw [if_pos hc] at h ⊢
    have hlen : ((c :: (r ++ R)).takeWhile insideB).length = (c :: r).length := by
      unfold wordF at h
      simp only at h
      split at h
      · simp at h
      · split at h <;> simp only [Prod.mk.injEq] at h <;> exact h.2.1
    have h1 : (c :: r ++ R).takeWhile insideB = c :: r := take_pre hlen
    have h2 : (c :: r ++ B).takeWhile insideB = c :: r := take_ext (by decide) (by decide) _ _ _ h1 hh
    unfold wordF at h ⊢
    rw [List.cons_append] at h1 h2
    rw [h1] at h
    rw [h2]
    exact h
  · rw [if_neg hc] at h ⊢
    by_cases hd : digitB c = true
    · rw [if_pos hd] at h ⊢
      have hlen : ((c :: (r ++ R)).takeWhile digitB).length = (c :: r).length := by
        unfold numF at h
        simp only at h
        split at h
        · simp at h
        · simp only [Prod.mk.injEq] at h; exact h.2.1
      have h1 : (c :: r ++ R).takeWhile digitB = c :: r := take_pre hlen
      have h2 : (c :: r ++ B).takeWhile digitB = c :: r := take_ext (by decide) (by decide) _ _ _ h1 hh
      unfold numF at h ⊢
      rw [List.cons_append] at h1 h2
      rw [h1] at h
      rw [h2]
      exact h
    · rw [if_neg hd] at h ⊢
      rw [symF_len] at h ⊢
      have hl : signLen (c :: r ++ R) = (c :: r).length := by
        rw [List.cons_append]
        split at h
        · simp at h
        · simp only [Prod.mk.injEq] at h; exact h.2.1
      have h2 := sign_ext hl hx hh
      rw [List.cons_append] at hl h2
      rw [hl] at h
      rw [h2]
      exact h

/-- Two rows of tokens with the same kinds and texts, the first one's at no smaller places. -/
def Alike : List Tok → List Tok → Prop
  | [], [] => True
  | a :: m, b :: l => a.kind = b.kind ∧ a.text = b.text ∧ b.place ≤ a.place ∧ Alike m l
  | _, _ => False

theorem Alike.length : ∀ {m l : List Tok}, Alike m l → m.length = l.length
  | [], [], _ => rfl
  | a :: m, b :: l, h => by rw [List.length_cons, List.length_cons, Alike.length h.2.2.2]
  | [], _ :: _, h => h.elim
  | _ :: _, [], h => h.elim

theorem Alike.at : ∀ {m l : List Tok}, Alike m l → ∀ (i : Nat) (h1 : i < m.length) (h2 : i < l.length), m[i].kind = l[i].kind ∧ m[i].text = l[i].text ∧ l[i].place ≤ m[i].place
  | a :: m, b :: l, h, 0, _, _ => ⟨h.1, h.2.1, h.2.2.1⟩
  | a :: m, b :: l, h, i + 1, h1, h2 => by
    simp only [List.getElem_cons_succ]
    exact Alike.at h.2.2.2 i (by simpa using h1) (by simpa using h2)
  | [], [], _, i, h1, _ => absurd h1 (by simp)
  | [], _ :: _, h, _, _, _ => h.elim
  | _ :: _, [], h, _, _, _ => h.elim

theorem insF_head (k : Int) (X : List UInt8) : (insF k ++ X).head? = X.head? ∨ (insF k ++ X).head? = some 32 ∨ (insF k ++ X).head? = some 10 := by
  unfold insF
  split
  · exact .inr (.inl rfl)
  · split
    · exact .inr (.inr rfl)
    · split
      · exact .inr (.inl rfl)
      · exact .inl rfl

theorem blanks_lex (f : Nat → Int) : ∀ (n : Nat) (T : List UInt8) (p : Nat) (l : List Tok), lexF n T p = .ok l → ∀ (i n' p' : Nat), l.length ≤ n' → p ≤ p' →
    HeadOk T (builtF f i l) ∧ ∃ m, lexF n' (builtF f i l) p' = .ok m ∧ Alike m l
  | 0, _, _, _, h, _, _, _, _, _ => by cases h
  | n + 1, T, p, l, h, i, n', p', hn, hp => by
    rw [lexF] at h
    have hk := leadF_le false T
    generalize hkk : leadF false T = k at h hk
    by_cases he : (tokF (T.drop k)).2.2 ≠ 0
    · rw [if_pos he] at h; cases h
    rw [if_neg he] at h
    have hd : T.take k ++ T.drop k = T := List.take_append_drop k T
    have htk : (T.take k).length = k := by rw [List.length_take]; omega
    by_cases h5 : (tokF (T.drop k)).1 = 5
    · rw [if_pos h5] at h
      injection h with h
      subst h
      have hnil := tokF_end _ h5
      rw [hnil, List.append_nil] at hd
      have hb : builtF f i [⟨5, T.take k, [], p + k⟩] = insF (f i) ++ T := by
        simp only [builtF, List.append_nil]; rw [hd]
      rw [hb]
      refine ⟨insF_head _ _, ?_⟩
      obtain ⟨n', rfl⟩ : ∃ q, n' = q + 1 := ⟨n' - 1, by simp at hn; omega⟩
      have hlen : T.length = k := by rw [hd] at htk; exact htk
      rw [lexF, lead_ins, hkk]
      have hdr : (insF (f i) ++ T).drop ((insF (f i)).length + k) = [] := by rw [List.drop_eq_nil_iff]; simp; omega
      rw [hdr]
      refine ⟨_, rfl, rfl, rfl, ?_, trivial⟩
      simp only
      omega
    · rw [if_neg h5] at h
      have hpos := tokF_pos (T.drop k) (by omega) h5
      have hlen := tokF_len (T.drop k)
      have htk2 : tokF (T.drop k) = ((tokF (T.drop k)).1, (tokF (T.drop k)).2.1, 0) := by
        have : (tokF (T.drop k)).2.2 = 0 := by omega
        rw [← this]
      generalize hx : tokF (T.drop k) = t at h he h5 hpos hlen htk2
      obtain ⟨kd, q, er⟩ := t
      simp only at h he h5 hpos hlen htk2
      cases hr : lexF n ((T.drop k).drop q) (p + k + q) with
      | error e => simp only [hr] at h; cases h
      | ok r =>
        simp only [hr] at h
        injection h with h
        subst h
        obtain ⟨n', rfl⟩ : ∃ z, n' = z + 1 := ⟨n' - 1, by simp at hn; omega⟩
        have hxl : ((T.drop k).take q).length = q := by rw [List.length_take]; omega
        have hsp : (T.drop k).take q ++ (T.drop k).drop q = T.drop k := List.take_append_drop q _
        generalize hX : (T.drop k).take q = x at hxl hsp
        generalize hR : (T.drop k).drop q = R at hsp hr
        generalize hA : T.take k = A at hd htk
        have hx0 : x ≠ [] := by intro e; rw [e] at hxl; simp at hxl; omega
        obtain ⟨hH, m, hm, hAl⟩ := blanks_lex f n R _ r hr (i + 1) n' (p' + ((insF (f i)).length + k) + q) (by simpa using hn) (by omega)
        have hb : builtF f i (⟨kd, A, x, p + k⟩ :: r) = insF (f i) ++ (A ++ (x ++ builtF f (i + 1) r)) := by simp [builtF]
        generalize builtF f (i + 1) r = B at hH hm hb
        rw [hb]
        have htok : tokF (x ++ R) = (kd, x.length, 0) := by rw [hsp, hx, hxl, htk2]
        have htB := tok_ext hx0 htok hH
        obtain ⟨c, x', rfl⟩ : ∃ c r, x = c :: r := by cases x with
          | nil => exact absurd rfl hx0
          | cons c r => exact ⟨c, r, rfl⟩
        have hlead : leadF false (A ++ c :: (x' ++ R)) = A.length := by
          rw [htk, ← hkk, ← hd, ← hsp]
          rfl
        have hstop := lead_stop A false c _ hlead
        have hstop2 : leadF false (c :: (x' ++ B)) = 0 := by
          rw [leadF] at hstop ⊢
          by_cases hb : blankB c = true
          · rw [if_pos hb] at hstop; omega
          · rw [if_neg hb] at hstop ⊢
            rw [if_neg]
            rintro ⟨hc, hh⟩
            cases x' with
            | cons d x' =>
              rw [if_pos ⟨hc, hh⟩] at hstop
              omega
            | nil =>
              rw [List.nil_append] at hh
              rcases hH with e | e | e
              · rw [if_pos ⟨hc, by rw [List.nil_append, ← e]; exact hh⟩] at hstop
                omega
              · rw [hh] at e; cases e
              · rw [hh] at e; cases e
        have hleadB := lead_move A false c _ _ hlead hstop2
        refine ⟨?_, ?_⟩
        · rcases insF_head (f i) (A ++ (c :: x' ++ B)) with e | e | e
          · left
            rw [e, ← hd, ← hsp]
            cases A <;> rfl
          · exact .inr (.inl e)
          · exact .inr (.inr e)
        · refine ⟨⟨kd, (insF (f i) ++ (A ++ (c :: x' ++ B))).take ((insF (f i)).length + k), c :: x', p' + ((insF (f i)).length + k)⟩ :: m, ?_, rfl, rfl, by simp only; omega, hAl⟩
          have hL : leadF false (insF (f i) ++ (A ++ (c :: x' ++ B))) = (insF (f i)).length + k := by rw [lead_ins, List.cons_append, hleadB, htk]
          have hD : (insF (f i) ++ (A ++ (c :: x' ++ B))).drop ((insF (f i)).length + k) = c :: x' ++ B := by
            rw [← List.drop_drop, List.drop_left, ← htk, List.drop_left]
          rw [lexF]
          simp only [hL, hD, htB]
          rw [hxl]
          have hD2 : (c :: x' ++ B).drop q = B := by rw [← hxl, List.drop_left]
          have hT2 : (c :: x' ++ B).take q = c :: x' := by rw [← hxl, List.take_left]
          rw [hD2, hT2, hm]
          simp [h5]

theorem blanks_all {S : List UInt8} {l : List Tok} (f : Nat → Int) (h : lexAll S = .ok l) (hl : l.length ≤ 1001) (hS : S.length ≤ 1000) :
    ∃ m, lexAll (builtF f 0 l) = .ok m ∧ Alike m l := by
  have hL := lexAll_laid h
  have h1 := builtF_len f 0 l
  have h2 := hL.whole
  rw [lexAll] at h
  split at h
  · cases h
  · have h3 := hL.count
    obtain ⟨_, m, hm, ha⟩ := blanks_lex f _ S 0 l h 0 ((builtF f 0 l).length + 1) 0 (by omega) (Nat.le_refl _)
    refine ⟨m, ?_, ha⟩
    rw [lexAll, if_neg (by omega)]
    exact hm
end Go.Proofs.YtofbhdpcpoclaaaDoor
