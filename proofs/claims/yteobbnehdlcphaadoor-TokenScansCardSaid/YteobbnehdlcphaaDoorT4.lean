/- Plain laws of the scanning: fuel, blanks, remarks. No program. -/
import Derived.Test.YteobbnehdlcphaaDoorT1
namespace Go.Proofs.YteobbnehdlcphaaDoor.Tok
theorem skip_suffix : ∀ (n : Nat) (l : Bs), l.length ≤ n → ∃ m, skip l = l.drop m := by
  intro n
  induction n with
  | zero => intro l h; have : l = [] := List.eq_nil_of_length_eq_zero (by omega); subst this; exact ⟨0, rfl⟩
  | succ n ih =>
    intro l h
    rw [skip_eq]
    have h1 := dropWhile_length isBlank l
    have hd := drop_wl isBlank l
    cases hb : l.dropWhile isBlank with
    | nil => exact ⟨l.length, by simp⟩
    | cons c r =>
      rw [hb] at h1 hd
      by_cases hc : c = 35
      · subst hc
        simp only [if_true]
        have h2 := rem_drops r
        rw [List.length_cons] at h1
        obtain ⟨m, hm⟩ := ih ((35 :: r : Bs).dropWhile isRem) (by omega)
        refine ⟨wl isBlank l + (wl isRem (35 :: r) + m), ?_⟩
        rw [hm, ← drop_wl isRem (35 :: r), ← hd, List.drop_drop, List.drop_drop]
      · simp only [if_neg hc]; exact ⟨_, hd.symm⟩
theorem skip_drop (l : Bs) : l.drop (l.length - (skip l).length) = skip l := by
  obtain ⟨m, hm⟩ := skip_suffix l.length l (Nat.le_refl _)
  rcases Nat.le_total m l.length with h | h
  · have : (skip l).length = l.length - m := by rw [hm, List.length_drop]
    rw [this, show l.length - (l.length - m) = m by omega, hm]
  · have h2 : skip l = [] := by rw [hm, List.drop_of_length_le h]
    rw [h2]; simp
theorem skip_blank {c : UInt8} (r : Bs) (h : isBlank c = true) : skip (c :: r) = skip r := by
  rw [skip_eq (c :: r), skip_eq r, List.dropWhile_cons, h]
  rfl
theorem skip_hash (r : Bs) : skip (35 :: r) = skip ((35 :: r : Bs).dropWhile isRem) := by
  rw [skip_eq (35 :: r)]
  have : (35 :: r : Bs).dropWhile isBlank = 35 :: r := by rw [List.dropWhile_cons, show isBlank 35 = false from by decide]; rfl
  rw [this]
  simp only [if_true]
theorem skip_stay {c : UInt8} (r : Bs) (h1 : isBlank c = false) (h2 : c ≠ 35) : skip (c :: r) = c :: r := by
  rw [skip_eq (c :: r)]
  have : (c :: r : Bs).dropWhile isBlank = c :: r := by rw [List.dropWhile_cons, h1]; rfl
  rw [this]
  simp only [if_neg h2]
theorem scanF_more : ∀ (n m : Nat) (l : Bs) (a : Nat), l.length < n → l.length < m → scanF n l a = scanF m l a
  | 0, _, l, _, h, _ => absurd h (Nat.not_lt_zero _)
  | _ + 1, 0, l, _, _, h => absurd h (Nat.not_lt_zero _)
  | n + 1, m + 1, l, a, hn, hm => by
    unfold scanF
    by_cases h1 : skip l = []
    · rw [if_pos h1, if_pos h1]
    · rw [if_neg h1, if_neg h1]
      by_cases h2 : (next (skip l)).1 = 0
      · rw [if_pos h2, if_pos h2]
      · rw [if_neg h2, if_neg h2]
        by_cases h3 : (next (skip l)).2.length > 24 ∧ (next (skip l)).1 = 1
        · rw [if_pos h3, if_pos h3]
        · rw [if_neg h3, if_neg h3]
          have h4 := (next_text (skip l) h2).2
          have h5 := skip_le l
          have h6 := next_len_le (skip l)
          rw [scanF_more n m _ _ (by rw [List.length_drop]; omega) (by rw [List.length_drop]; omega)]
/-- The tokens of what is left, from a position on. -/
def scanG (l : Bs) (a : Nat) : List T × Int × Int := scanF (l.length + 1) l a
theorem scanG_skip {l l2 : Bs} {a a2 : Nat} (h : skip l = skip l2) (ha : a + l.length = a2 + l2.length) : scanG l a = scanG l2 a2 := by
  have g1 := skip_le l
  have g2 := skip_le l2
  have hk : (skip l).length = (skip l2).length := by rw [h]
  have e : a + (l.length - (skip l).length) = a2 + (l2.length - (skip l2).length) := by omega
  show scanF (l.length + 1) l a = scanF (l2.length + 1) l2 a2
  unfold scanF
  rw [h, ha, show a + (l.length - (skip l2).length) = a2 + (l2.length - (skip l2).length) from by omega]
  by_cases h1 : skip l2 = []
  · rw [if_pos h1, if_pos h1]
  · rw [if_neg h1, if_neg h1]
    by_cases h2 : (next (skip l2)).1 = 0
    · rw [if_pos h2, if_pos h2]
    · rw [if_neg h2, if_neg h2]
      by_cases h3 : (next (skip l2)).2.length > 24 ∧ (next (skip l2)).1 = 1
      · rw [if_pos h3, if_pos h3]
      · rw [if_neg h3, if_neg h3]
        have h4 := (next_text (skip l2) h2).2
        have h6 := next_len_le (skip l2)
        rw [scanF_more l.length l2.length _ _ (by rw [List.length_drop]; omega) (by rw [List.length_drop]; omega)]
theorem scanG_blank {c : UInt8} (r : Bs) (a : Nat) (h : isBlank c = true) : scanG (c :: r) a = scanG r (a + 1) :=
  scanG_skip (skip_blank r h) (by simp only [List.length_cons]; omega)
theorem scanG_hash (r : Bs) (a : Nat) : scanG (35 :: r) a = scanG ((35 :: r : Bs).dropWhile isRem) (a + wl isRem (35 :: r)) :=
  scanG_skip (skip_hash r) (by
    have h := congrArg List.length (drop_wl isRem (35 :: r))
    have h2 := wl_le isRem (35 :: r)
    rw [List.length_drop] at h
    omega)
/-- One token at a place where nothing is skipped. -/
theorem scanG_stay (l : Bs) (a : Nat) (h : skip l = l) (hne : l ≠ []) : scanG l a =
    if (next l).1 = 0 then ([], (a : Int), 5)
    else if (next l).2.length > 24 ∧ (next l).1 = 1 then ([], (a : Int), 13)
    else match scanG (l.drop (next l).2.length) (a + (next l).2.length) with
      | (ts, p, 0) => (⟨(next l).1, (next l).2, a⟩ :: ts, p, 0)
      | (_, p, e) => ([], p, e) := by
  show scanF (l.length + 1) l a = _
  unfold scanF
  rw [h, if_neg hne, Nat.sub_self, Nat.add_zero]
  by_cases h2 : (next l).1 = 0
  · rw [if_pos h2, if_pos h2]
  · rw [if_neg h2, if_neg h2]
    by_cases h3 : (next l).2.length > 24 ∧ (next l).1 = 1
    · rw [if_pos h3, if_pos h3]
    · rw [if_neg h3, if_neg h3]
      have h4 := (next_text l h2).2
      have h6 := next_len_le l
      unfold scanG
      rw [scanF_more l.length ((l.drop (next l).2.length).length + 1) _ _ (by rw [List.length_drop]; omega) (by omega)]
      rfl
theorem scanG_nil (a : Nat) : scanG [] a = ([⟨5, [], a⟩], 0, 0) := rfl
/-! bytes that are not allowed begin no token -/
theorem bad_letter {c : UInt8} (h : isAllowed c = false) : isLetter c = false := by
  simp only [isAllowed, isLetter, Bool.or_eq_false_iff, Bool.and_eq_false_iff, decide_eq_false_iff_not] at *
  omega
theorem bad_digit {c : UInt8} (h : isAllowed c = false) : isDigit c = false := by
  simp only [isAllowed, isDigit, Bool.or_eq_false_iff, Bool.and_eq_false_iff, decide_eq_false_iff_not] at *
  omega
theorem numN_zero {c : UInt8} (r : Bs) (h : isDigit c = false) : numN (c :: r) = 0 := by
  unfold numN
  rw [wl_neg r h, if_neg (by omega)]
theorem sign_first : ∀ s ∈ signs, ∃ c t, s = c :: t ∧ isAllowed c = true ∧ isLetter c = false ∧ isDigit c = false ∧ isBlank c = false ∧ c ≠ 35 := by
  simp only [signs, List.mem_cons, List.not_mem_nil, or_false]
  rintro s (rfl | rfl | rfl | rfl | rfl | rfl | rfl | rfl | rfl | rfl | rfl | rfl | rfl | rfl | rfl | rfl | rfl) <;> exact ⟨_, _, rfl, by decide, by decide, by decide, by decide, by decide⟩
theorem signAt_first {c : UInt8} {r s : Bs} (h : signAt (c :: r) = some s) : isAllowed c = true ∧ isLetter c = false ∧ isDigit c = false ∧ isBlank c = false ∧ c ≠ 35 := by
  obtain ⟨h1, h2, _⟩ := signAt_some h
  obtain ⟨d, t, rfl, h3⟩ := sign_first s h1
  simp only [List.cons_append, List.cons.injEq] at h2
  rw [h2.1]; exact h3
theorem next_bad {c : UInt8} (r : Bs) (h : isAllowed c = false) : next (c :: r) = (0, []) := by
  unfold next
  rw [if_neg (by simp [hd, bad_letter h]), if_neg (by rw [numN_zero r (bad_digit h)]; omega)]
  cases hs : signAt (c :: r) with
  | none => rfl
  | some s => have := (signAt_first hs).1; rw [h] at this; cases this
end Go.Proofs.YteobbnehdlcphaaDoor.Tok
