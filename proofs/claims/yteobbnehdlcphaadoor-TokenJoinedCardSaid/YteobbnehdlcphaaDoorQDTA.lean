namespace Go.Proofs.YteobbnehdlcphaaDoor.Tok
abbrev Bs := List UInt8
def isLetter (c : UInt8) : Bool := decide (97 ≤ c.toNat) && decide (c.toNat ≤ 122)
def isDigit (c : UInt8) : Bool := decide (48 ≤ c.toNat) && decide (c.toNat ≤ 57)
def isIn (c : UInt8) : Bool := isLetter c || (isDigit c || c == 95)
def isBlank (c : UInt8) : Bool := c == 32 || (c == 9 || c == 10)
def isAllowed (c : UInt8) : Bool := (decide (32 ≤ c.toNat) && decide (c.toNat ≤ 126)) || (c == 9 || c == 10)
def isRem (c : UInt8) : Bool := c != 10 && isAllowed c
def wl (p : UInt8 → Bool) (l : Bs) : Nat := (l.takeWhile p).length
theorem wl_nil (p : UInt8 → Bool) : wl p [] = 0 := rfl
theorem wl_pos {p : UInt8 → Bool} {c : UInt8} (r : Bs) (h : p c = true) : wl p (c :: r) = wl p r + 1 := by simp [wl, h]
theorem wl_neg {p : UInt8 → Bool} {c : UInt8} (r : Bs) (h : p c = false) : wl p (c :: r) = 0 := by simp [wl, h]
theorem wl_le (p : UInt8 → Bool) : ∀ l : Bs, wl p l ≤ l.length
  | [] => Nat.le_refl _
  | c :: r => by
    cases h : p c
    · rw [wl_neg r h]; exact Nat.zero_le _
    · rw [wl_pos r h]; have := wl_le p r; simp only [List.length_cons]; omega
theorem drop_wl (p : UInt8 → Bool) : ∀ l : Bs, l.drop (wl p l) = l.dropWhile p
  | [] => rfl
  | c :: r => by
    cases h : p c
    · rw [wl_neg r h]; simp [h]
    · rw [wl_pos r h]; simp [h, drop_wl p r]
theorem take_wl (p : UInt8 → Bool) : ∀ l : Bs, l.take (wl p l) = l.takeWhile p
  | [] => rfl
  | c :: r => by
    cases h : p c
    · rw [wl_neg r h]; simp [h]
    · rw [wl_pos r h]; simp [h, take_wl p r]
def numN (l : Bs) : Nat :=
  if wl isDigit l > 0 ∧ l[wl isDigit l]? = some 46 ∧ wl isDigit (l.drop (wl isDigit l + 1)) > 0 then wl isDigit l + 1 + wl isDigit (l.drop (wl isDigit l + 1)) else wl isDigit l
theorem numN_le (l : Bs) : numN l ≤ l.length := by
  unfold numN
  split
  · rename_i h
    have h1 := wl_le isDigit (l.drop (wl isDigit l + 1))
    rw [List.length_drop] at h1
    omega
  · exact wl_le _ _
def words : List Bs := [[100, 101, 102], [108, 101, 116], [105, 110], [105, 102], [116, 104, 101, 110], [101, 108, 115, 101], [101, 97, 99, 104], [115, 117, 109], [102, 111, 108, 100], [100, 111, 119, 110], [114, 101, 97, 108], [102, 108, 97, 103], [97, 110, 100], [111, 114], [110, 111, 116], [121, 101, 115], [110, 111]]
def signs : List Bs := [[45, 62], [60, 61], [40], [41], [91], [93], [123], [125], [44], [58], [59], [61], [60], [43], [45], [42], [47]]
def signAt (l : Bs) : Option Bs := signs.find? fun s => s.isPrefixOf l
def isWord (t : Bs) : Bool := words.contains t
def hd (p : UInt8 → Bool) : Bs → Bool
  | [] => false
  | c :: _ => p c
def next (l : Bs) : Int × Bs :=
  if hd isLetter l = true then (if isWord (l.takeWhile isIn) = true then 2 else 1, l.takeWhile isIn)
  else if numN l > 0 then (3, l.take (numN l))
  else match signAt l with
    | some s => (4, s)
    | none => (0, [])
def skipF : Nat → Bs → Bs
  | 0, l => l
  | n + 1, l => match l.dropWhile isBlank with
    | [] => []
    | c :: r => if c = 35 then skipF n ((c :: r).dropWhile isRem) else c :: r
def skip (l : Bs) : Bs := skipF (l.length + 1) l
theorem dropWhile_length (p : UInt8 → Bool) : ∀ l : Bs, (l.dropWhile p).length ≤ l.length
  | [] => Nat.le_refl _
  | c :: r => by
    cases h : p c <;> simp only [List.dropWhile_cons, h, if_true, List.length_cons]
    · simp
    · have := dropWhile_length p r; omega
theorem rem_hash : isRem 35 = true := by decide
theorem rem_drops (r : Bs) : ((35 :: r : Bs).dropWhile isRem).length ≤ r.length := by
  rw [List.dropWhile_cons, rem_hash]
  exact dropWhile_length _ _
theorem skipF_more : ∀ (n m : Nat) (l : Bs), l.length < n → l.length < m → skipF n l = skipF m l
  | 0, _, l, h, _ => absurd h (Nat.not_lt_zero _)
  | _ + 1, 0, l, _, h => absurd h (Nat.not_lt_zero _)
  | n + 1, m + 1, l, hn, hm => by
    unfold skipF
    have h1 := dropWhile_length isBlank l
    cases hb : l.dropWhile isBlank with
    | nil => rfl
    | cons c r =>
      by_cases hc : c = 35
      · subst hc
        simp only [if_true]
        have h2 := rem_drops r
        rw [hb, List.length_cons] at h1
        exact skipF_more n m _ (by omega) (by omega)
      · simp only [if_neg hc]
theorem skip_eq (l : Bs) : skip l = match l.dropWhile isBlank with
    | [] => []
    | c :: r => if c = 35 then skip ((c :: r).dropWhile isRem) else c :: r := by
  show skipF (l.length + 1) l = _
  unfold skipF
  have h1 := dropWhile_length isBlank l
  cases hb : l.dropWhile isBlank with
  | nil => rfl
  | cons c r =>
    by_cases hc : c = 35
    · subst hc
      simp only [if_true]
      have h2 := rem_drops r
      rw [hb, List.length_cons] at h1
      exact skipF_more _ _ _ (by omega) (by omega)
    · simp only [if_neg hc]
theorem skip_length : ∀ (n : Nat) (l : Bs), l.length ≤ n → (skip l).length ≤ l.length := by
  intro n
  induction n with
  | zero => intro l h; have : l = [] := List.eq_nil_of_length_eq_zero (by omega); subst this; exact Nat.le_refl _
  | succ n ih =>
    intro l h
    rw [skip_eq]
    have h1 := dropWhile_length isBlank l
    cases hb : l.dropWhile isBlank with
    | nil => exact Nat.zero_le _
    | cons c r =>
      rw [hb] at h1
      by_cases hc : c = 35
      · subst hc
        simp only [if_true]
        have h2 := rem_drops r
        rw [List.length_cons] at h1
        have h3 := ih ((35 :: r : Bs).dropWhile isRem) (by omega)
        omega
      · simp only [if_neg hc]; exact h1
theorem skip_le (l : Bs) : (skip l).length ≤ l.length := skip_length l.length l (Nat.le_refl _)
structure T where
  k : Int
  t : Bs
  a : Nat
deriving DecidableEq
def scanF : Nat → Bs → Nat → List T × Int × Int
  | 0, _, _ => ([], 0, 0)
  | n + 1, l, at_ =>
    if skip l = [] then ([⟨5, [], at_ + l.length⟩], 0, 0)
    else if (next (skip l)).1 = 0 then ([], ((at_ + (l.length - (skip l).length) : Nat) : Int), 5)
    else if (next (skip l)).2.length > 24 ∧ (next (skip l)).1 = 1 then ([], ((at_ + (l.length - (skip l).length) : Nat) : Int), 13)
    else match scanF n ((skip l).drop (next (skip l)).2.length) (at_ + (l.length - (skip l).length) + (next (skip l)).2.length) with
      | (ts, p, 0) => (⟨(next (skip l)).1, (next (skip l)).2, at_ + (l.length - (skip l).length)⟩ :: ts, p, 0)
      | (_, p, e) => ([], p, e)
theorem prefix_append : ∀ {s l : Bs}, s.isPrefixOf l = true → l = s ++ l.drop s.length
  | [], l, _ => by simp
  | c :: s, [], h => by simp at h
  | c :: s, d :: l, h => by
    simp only [List.isPrefixOf, Bool.and_eq_true, beq_iff_eq] at h
    obtain ⟨rfl, h⟩ := h
    have := prefix_append h
    simp only [List.length_cons, List.drop_succ_cons, List.cons_append]
    rw [← this]
theorem signAt_some {l s : Bs} (h : signAt l = some s) : s ∈ signs ∧ l = s ++ l.drop s.length ∧ 0 < s.length := by
  have h1 := List.find?_some h
  have h2 := List.mem_of_find?_eq_some h
  refine ⟨h2, prefix_append h1, ?_⟩
  revert h2
  simp only [signs, List.mem_cons, List.not_mem_nil, or_false]
  rintro (rfl | rfl | rfl | rfl | rfl | rfl | rfl | rfl | rfl | rfl | rfl | rfl | rfl | rfl | rfl | rfl | rfl) <;> decide
theorem letter_in {c : UInt8} (h : isLetter c = true) : isIn c = true := by simp [isIn, h]
theorem next_text (l : Bs) (h : (next l).1 ≠ 0) : l = (next l).2 ++ l.drop (next l).2.length ∧ 0 < (next l).2.length := by
  unfold next at h ⊢
  split at h
  · rename_i hl
    simp only [hl, if_true]
    cases l with
    | nil => simp [hd] at hl
    | cons c r =>
      have hc : isIn c = true := letter_in hl
      refine ⟨?_, by simp [hc]⟩
      have h1 := take_wl isIn (c :: r)
      have h2 : (List.takeWhile isIn (c :: r)).length = wl isIn (c :: r) := rfl
      rw [h2, ← h1, List.take_append_drop]
  · rename_i hl
    simp only [hl]
    split at h
    · rename_i hn
      simp only [hn, if_true]
      have h1 := numN_le l
      have h2 : (l.take (numN l)).length = numN l := by rw [List.length_take]; omega
      refine ⟨?_, by simp only [Bool.false_eq_true, if_false]; omega⟩
      simp only [Bool.false_eq_true, if_false]
      rw [h2, List.take_append_drop]
    · rename_i hn
      simp only [hn, if_false, Bool.false_eq_true]
      cases hs : signAt l with
      | none => simp [hs] at h
      | some s => exact ⟨(signAt_some hs).2.1, (signAt_some hs).2.2⟩
theorem next_len_le (l : Bs) : (next l).2.length ≤ l.length := by
  by_cases h : (next l).1 = 0
  · unfold next at h ⊢
    split at h
    · split at h <;> simp at h
    · rename_i hl
      simp only [hl, Bool.false_eq_true, if_false]
      split at h
      · simp at h
      · rename_i hn
        simp only [hn, if_false]
        cases hs : signAt l with
        | none => exact Nat.zero_le _
        | some s => simp [hs] at h
  · have := (next_text l h).1
    have h2 := congrArg List.length this
    rw [List.length_append] at h2
    omega
end Go.Proofs.YteobbnehdlcphaaDoor.Tok
namespace Go.Proofs.YteobbnehdlcphaaDoor.Tok
theorem skip_suffix : ∀ (n : Nat) (l : Bs), l.length ≤ n → ∃ m, skip l = l.drop m := by
  intro n
  induction n with
  | zero => intro l h; have : l = [] := List.eq_nil_of_length_eq_zero (by omega); subst this; exact ⟨0, rfl⟩
  | succ n ih =>
    intro l h
    rw [skip_eq]
    have h1 := dropWhile_length isBlank l
    have hd := drop_wl isBlank l
    cases hb : l.dropWhile isBlank with
    | nil => exact ⟨l.length, by simp⟩
    | cons c r =>
      rw [hb] at h1 hd
      by_cases hc : c = 35
      · subst hc
        simp only [if_true]
        have h2 := rem_drops r
        rw [List.length_cons] at h1
        obtain ⟨m, hm⟩ := ih ((35 :: r : Bs).dropWhile isRem) (by omega)
        refine ⟨wl isBlank l + (wl isRem (35 :: r) + m), ?_⟩
        rw [hm, ← drop_wl isRem (35 :: r), ← hd, List.drop_drop, List.drop_drop]
      · simp only [if_neg hc]; exact ⟨_, hd.symm⟩
theorem skip_drop (l : Bs) : l.drop (l.length - (skip l).length) = skip l := by
  obtain ⟨m, hm⟩ := skip_suffix l.length l (Nat.le_refl _)
  rcases Nat.le_total m l.length with h | h
  · have : (skip l).length = l.length - m := by rw [hm, List.length_drop]
    rw [this, show l.length - (l.length - m) = m by omega, hm]
  · have h2 : skip l = [] := by rw [hm, List.drop_of_length_le h]
    rw [h2]; simp
theorem skip_blank {c : UInt8} (r : Bs) (h : isBlank c = true) : skip (c :: r) = skip r := by
  rw [skip_eq (c :: r), skip_eq r, List.dropWhile_cons, h]
  rfl
theorem skip_hash (r : Bs) : skip (35 :: r) = skip ((35 :: r : Bs).dropWhile isRem) := by
  rw [skip_eq (35 :: r)]
  have : (35 :: r : Bs).dropWhile isBlank = 35 :: r := by rw [List.dropWhile_cons, show isBlank 35 = false from by decide]; rfl
  rw [this]
  simp only [if_true]
theorem skip_stay {c : UInt8} (r : Bs) (h1 : isBlank c = false) (h2 : c ≠ 35) : skip (c :: r) = c :: r := by
  rw [skip_eq (c :: r)]
  have : (c :: r : Bs).dropWhile isBlank = c :: r := by rw [List.dropWhile_cons, h1]; rfl
  rw [this]
  simp only [if_neg h2]
theorem scanF_more : ∀ (n m : Nat) (l : Bs) (a : Nat), l.length < n → l.length < m → scanF n l a = scanF m l a
  | 0, _, l, _, h, _ => absurd h (Nat.not_lt_zero _)
  | _ + 1, 0, l, _, _, h => absurd h (Nat.not_lt_zero _)
  | n + 1, m + 1, l, a, hn, hm => by
    unfold scanF
    by_cases h1 : skip l = []
    · rw [if_pos h1, if_pos h1]
    · rw [if_neg h1, if_neg h1]
      by_cases h2 : (next (skip l)).1 = 0
      · rw [if_pos h2, if_pos h2]
      · rw [if_neg h2, if_neg h2]
        by_cases h3 : (next (skip l)).2.length > 24 ∧ (next (skip l)).1 = 1
        · rw [if_pos h3, if_pos h3]
        · rw [if_neg h3, if_neg h3]
          have h4 := (next_text (skip l) h2).2
          have h5 := skip_le l
          have h6 := next_len_le (skip l)
          rw [scanF_more n m _ _ (by rw [List.length_drop]; omega) (by rw [List.length_drop]; omega)]
def scanG (l : Bs) (a : Nat) : List T × Int × Int := scanF (l.length + 1) l a
theorem scanG_skip {l l2 : Bs} {a a2 : Nat} (h : skip l = skip l2) (ha : a + l.length = a2 + l2.length) : scanG l a = scanG l2 a2 := by
  have g1 := skip_le l
  have g2 := skip_le l2
  have hk : (skip l).length = (skip l2).length := by rw [h]
  have e : a + (l.length - (skip l).length) = a2 + (l2.length - (skip l2).length) := by omega
  show scanF (l.length + 1) l a = scanF (l2.length + 1) l2 a2
  unfold scanF
  rw [h, ha, show a + (l.length - (skip l2).length) = a2 + (l2.length - (skip l2).length) from by omega]
  by_cases h1 : skip l2 = []
  · rw [if_pos h1, if_pos h1]
  · rw [if_neg h1, if_neg h1]
    by_cases h2 : (next (skip l2)).1 = 0
    · rw [if_pos h2, if_pos h2]
    · rw [if_neg h2, if_neg h2]
      by_cases h3 : (next (skip l2)).2.length > 24 ∧ (next (skip l2)).1 = 1
      · rw [if_pos h3, if_pos h3]
      · rw [if_neg h3, if_neg h3]
        have h4 := (next_text (skip l2) h2).2
        have h6 := next_len_le (skip l2)
        rw [scanF_more l.length l2.length _ _ (by rw [List.length_drop]; omega) (by rw [List.length_drop]; omega)]
theorem scanG_blank {c : UInt8} (r : Bs) (a : Nat) (h : isBlank c = true) : scanG (c :: r) a = scanG r (a + 1) :=
  scanG_skip (skip_blank r h) (by simp only [List.length_cons]; omega)
theorem scanG_stay (l : Bs) (a : Nat) (h : skip l = l) (hne : l ≠ []) : scanG l a =
    if (next l).1 = 0 then ([], (a : Int), 5)
    else if (next l).2.length > 24 ∧ (next l).1 = 1 then ([], (a : Int), 13)
    else match scanG (l.drop (next l).2.length) (a + (next l).2.length) with
      | (ts, p, 0) => (⟨(next l).1, (next l).2, a⟩ :: ts, p, 0)
      | (_, p, e) => ([], p, e) := by
  show scanF (l.length + 1) l a = _
  unfold scanF
  rw [h, if_neg hne, Nat.sub_self, Nat.add_zero]
  by_cases h2 : (next l).1 = 0
  · rw [if_pos h2, if_pos h2]
  · rw [if_neg h2, if_neg h2]
    by_cases h3 : (next l).2.length > 24 ∧ (next l).1 = 1
    · rw [if_pos h3, if_pos h3]
    · rw [if_neg h3, if_neg h3]
      have h4 := (next_text l h2).2
      have h6 := next_len_le l
      unfold scanG
      rw [scanF_more l.length ((l.drop (next l).2.length).length + 1) _ _ (by rw [List.length_drop]; omega) (by omega)]
theorem bad_letter {c : UInt8} (h : isAllowed c = false) : isLetter c = false := by
  simp only [isAllowed, isLetter, Bool.or_eq_false_iff, Bool.and_eq_false_iff, decide_eq_false_iff_not] at *
  omega
theorem bad_digit {c : UInt8} (h : isAllowed c = false) : isDigit c = false := by
  simp only [isAllowed, isDigit, Bool.or_eq_false_iff, Bool.and_eq_false_iff, decide_eq_false_iff_not] at *
  omega
theorem numN_zero {c : UInt8} (r : Bs) (h : isDigit c = false) : numN (c :: r) = 0 := by
  unfold numN
  rw [wl_neg r h, if_neg (by omega)]
theorem sign_first : ∀ s ∈ signs, ∃ c t, s = c :: t ∧ isAllowed c = true ∧ isLetter c = false ∧ isDigit c = false ∧ isBlank c = false ∧ c ≠ 35 := by
  simp only [signs, List.mem_cons, List.not_mem_nil, or_false]
  rintro s (rfl | rfl | rfl | rfl | rfl | rfl | rfl | rfl | rfl | rfl | rfl | rfl | rfl | rfl | rfl | rfl | rfl) <;> exact ⟨_, _, rfl, by decide, by decide, by decide, by decide, by decide⟩
theorem signAt_first {c : UInt8} {r s : Bs} (h : signAt (c :: r) = some s) : isAllowed c = true ∧ isLetter c = false ∧ isDigit c = false ∧ isBlank c = false ∧ c ≠ 35 := by
  obtain ⟨h1, h2, _⟩ := signAt_some h
  obtain ⟨d, t, rfl, h3⟩ := sign_first s h1
  simp only [List.cons_append, List.cons.injEq] at h2
  rw [h2.1]; exact h3
theorem next_bad {c : UInt8} (r : Bs) (h : isAllowed c = false) : next (c :: r) = (0, []) := by
  unfold next
  rw [if_neg (by simp [hd, bad_letter h]), if_neg (by rw [numN_zero r (bad_digit h)]; omega)]
  cases hs : signAt (c :: r) with
  | none => rfl
  | some s => have := (signAt_first hs).1; rw [h] at this; cases this
end Go.Proofs.YteobbnehdlcphaaDoor.Tok
namespace Go.Proofs.YteobbnehdlcphaaDoor.Tok
theorem tw_idem (p : UInt8 → Bool) : ∀ l : Bs, (l.takeWhile p).takeWhile p = l.takeWhile p
  | [] => rfl
  | c :: r => by
    cases h : p c
    · simp [h]
    · simp [h, tw_idem p r]
theorem wl_take (p : UInt8 → Bool) : ∀ (l : Bs) (m : Nat), wl p (l.take m) = min (wl p l) m
  | [], m => by simp [wl_nil]
  | c :: r, 0 => by simp [wl_nil]
  | c :: r, m + 1 => by
    rw [List.take_succ_cons]
    cases h : p c
    · rw [wl_neg _ h, wl_neg _ h]; omega
    · rw [wl_pos _ h, wl_pos _ h, wl_take p r m]; omega
theorem numN_take (l : Bs) : numN (l.take (numN l)) = numN l := by
  by_cases h : wl isDigit l > 0 ∧ l[wl isDigit l]? = some 46 ∧ wl isDigit (l.drop (wl isDigit l + 1)) > 0
  · have hn : numN l = wl isDigit l + 1 + wl isDigit (l.drop (wl isDigit l + 1)) := by unfold numN; rw [if_pos h]
    obtain ⟨h1, h2, h3⟩ := h
    have h4 : wl isDigit (l.take (numN l)) = wl isDigit l := by rw [wl_take, hn]; omega
    have h5 : (l.take (numN l))[wl isDigit l]? = some 46 := by rw [List.getElem?_take_of_lt (by omega), h2]
    have h6 : wl isDigit ((l.take (numN l)).drop (wl isDigit l + 1)) = wl isDigit (l.drop (wl isDigit l + 1)) := by
      rw [List.drop_take, wl_take, hn]; omega
    generalize hx : l.take (numN l) = x at *
    unfold numN
    rw [h4, h6, if_pos ⟨h1, h5, h3⟩, ← hn]
    rw [if_pos ⟨h1, h2, h3⟩]
  · have hn : numN l = wl isDigit l := by unfold numN; rw [if_neg h]
    have h4 : wl isDigit (l.take (numN l)) = wl isDigit l := by rw [wl_take, hn]; omega
    have h5 : (l.take (numN l))[wl isDigit l]? = none := by rw [List.getElem?_eq_none_iff, List.length_take]; omega
    rw [hn] at h4 h5 ⊢
    unfold numN
    rw [h4, h5, if_neg (by simp)]
theorem sign_again : ∀ s ∈ signs, signAt s = some s := by
  have h : (signs.all fun s => signAt s == some s) = true := by decide
  intro s hs
  exact beq_iff_eq.1 (List.all_eq_true.1 h s hs)
theorem numN_digit {c : UInt8} {r : Bs} (h : numN (c :: r) > 0) : isDigit c = true := by
  cases hd : isDigit c with
  | true => rfl
  | false => rw [numN_zero r hd] at h; omega
theorem hd_cons (p : UInt8 → Bool) (c : UInt8) (r : Bs) : hd p (c :: r) = p c := rfl
theorem next_letter {c : UInt8} {r : Bs} (h : isLetter c = true) : next (c :: r) = (if isWord ((c :: r : Bs).takeWhile isIn) = true then 2 else 1, (c :: r : Bs).takeWhile isIn) := by
  unfold next
  rw [if_pos (show hd isLetter (c :: r) = true from h)]
theorem next_digits {c : UInt8} {r : Bs} (h : isLetter c = false) (h2 : numN (c :: r) > 0) : next (c :: r) = (3, (c :: r : Bs).take (numN (c :: r))) := by
  unfold next
  rw [if_neg (by simp [hd, h]), if_pos h2]
theorem next_else {c : UInt8} {r : Bs} (h : isLetter c = false) (h2 : ¬ numN (c :: r) > 0) : next (c :: r) = match signAt (c :: r) with | some s => (4, s) | none => (0, []) := by
  unfold next
  rw [if_neg (by simp [hd, h]), if_neg h2]
theorem next_again (l : Bs) (h : (next l).1 ≠ 0) : next (next l).2 = next l ∧ (next l).1 ≠ 5 := by
  cases l with
  | nil => exact absurd rfl h
  | cons c r =>
    cases hl : isLetter c with
    | true =>
      rw [next_letter hl]
      have hin := letter_in hl
      have h1 := tw_idem isIn (c :: r)
      have h2 : (c :: r : Bs).takeWhile isIn = c :: r.takeWhile isIn := by rw [List.takeWhile_cons, hin]; rfl
      dsimp only
      rw [h2, next_letter hl, ← h2, h1]
      exact ⟨rfl, by split <;> decide⟩
    | false =>
      by_cases hn : numN (c :: r) > 0
      · rw [next_digits hl hn]
        have h1 := numN_take (c :: r)
        have h3 : ∃ m, numN (c :: r) = m + 1 := ⟨numN (c :: r) - 1, by omega⟩
        obtain ⟨m, h3⟩ := h3
        have h2 : (c :: r : Bs).take (numN (c :: r)) = c :: r.take m := by rw [h3]; rfl
        dsimp only
        rw [h2, next_digits hl (by rw [← h2, h1]; exact hn), ← h2, h1, List.take_take, Nat.min_self]
        exact ⟨rfl, by decide⟩
      · rw [next_else hl hn] at h ⊢
        cases hs : signAt (c :: r) with
        | none => rw [hs] at h; exact absurd rfl h
        | some s =>
          dsimp only
          have hmem := (signAt_some hs).1
          obtain ⟨d, t, rfl, _, h5, h6, _⟩ := sign_first s hmem
          rw [next_else h5 (by rw [numN_zero t h6]; omega), sign_again _ hmem]
          exact ⟨rfl, by decide⟩
def Good (t : T) : Prop := (t.k = 5 ∧ t.t = []) ∨ (t.k ≠ 5 ∧ t.t ≠ [] ∧ next t.t = (t.k, t.t))
theorem scan_good : ∀ (n : Nat) (l : Bs) (a : Nat), (scanF n l a).1.length ≤ n ∧ ∀ t ∈ (scanF n l a).1, Good t ∧ t.t.length ≤ l.length
  | 0, l, a => ⟨Nat.le_refl _, fun t h => by cases h⟩
  | n + 1, l, a => by
    have hsl := skip_le l
    unfold scanF
    by_cases h1 : skip l = []
    · rw [if_pos h1]
      refine ⟨by simp, fun t ht => ?_⟩
      simp only [List.mem_singleton] at ht
      subst ht
      exact ⟨.inl ⟨rfl, rfl⟩, Nat.zero_le _⟩
    · rw [if_neg h1]
      by_cases h2 : (next (skip l)).1 = 0
      · rw [if_pos h2]; exact ⟨Nat.zero_le _, fun t h => by cases h⟩
      · rw [if_neg h2]
        by_cases h3 : (next (skip l)).2.length > 24 ∧ (next (skip l)).1 = 1
        · rw [if_pos h3]; exact ⟨Nat.zero_le _, fun t h => by cases h⟩
        · rw [if_neg h3]
          have ih := scan_good n ((skip l).drop (next (skip l)).2.length) (a + (l.length - (skip l).length) + (next (skip l)).2.length)
          have hna := next_again (skip l) h2
          have hnt := next_text (skip l) h2
          have hnl := next_len_le (skip l)
          rw [List.length_drop] at ih
          generalize scanF n ((skip l).drop (next (skip l)).2.length) (a + (l.length - (skip l).length) + (next (skip l)).2.length) = x at ih
          obtain ⟨ts, p, e⟩ := x
          dsimp only at ih
          split
          · rename_i heq
            injection heq with h4 _
            subst h4
            refine ⟨by simp only [List.length_cons]; omega, fun t ht => ?_⟩
            rcases List.mem_cons.1 ht with rfl | ht
            · refine ⟨.inr ⟨hna.2, ?_, hna.1⟩, by dsimp only; omega⟩
              intro h0
              have := hnt.2
              dsimp only at h0
              rw [h0] at this
              exact absurd this (by decide)
            · exact ⟨(ih.2 t ht).1, by have := (ih.2 t ht).2; omega⟩
          · exact ⟨Nat.zero_le _, fun t h => by cases h⟩
def nameN (l : Bs) : Nat := if hd isLetter l = true then wl isIn l else 0
theorem letter_digit {c : UInt8} (h : isLetter c = true) : isDigit c = false := by
  simp only [isLetter, isDigit, Bool.and_eq_true, decide_eq_true_eq, Bool.and_eq_false_iff, decide_eq_false_iff_not] at *
  omega
theorem kind_same {a : T} {b : Bs} (ha : a.k ≠ 5) (h : Good a) (h2 : (next (a.t ++ b)).2.length = a.t.length) : next (a.t ++ b) = (a.k, a.t) := by
  rcases h with h | ⟨_, hne, hg⟩
  · exact absurd h.1 ha
  · obtain ⟨c, r, hcr⟩ : ∃ c r, a.t = c :: r := by
      cases h : a.t with
      | nil => exact absurd h hne
      | cons c r => exact ⟨c, r, rfl⟩
    have hk0 : (next (a.t ++ b)).1 ≠ 0 := by
      intro h0
      have h3 : (next (a.t ++ b)).2.length = 0 := by
        rw [hcr, List.cons_append] at h0 ⊢
        cases hl : isLetter c with
        | true => rw [next_letter hl] at h0; dsimp only at h0; split at h0 <;> cases h0
        | false =>
          by_cases hn : numN (c :: (r ++ b)) > 0
          · rw [next_digits hl hn] at h0; cases h0
          · rw [next_else hl hn] at h0 ⊢
            cases hs : signAt (c :: (r ++ b)) with
            | none => rfl
            | some s => rw [hs] at h0; cases h0
      rw [h2, hcr] at h3
      cases h3
    have htx : (next (a.t ++ b)).2 = a.t := by
      have h3 := (next_text (a.t ++ b) hk0).1
      have h4 := congrArg (List.take a.t.length) h3
      rw [← h2, List.take_left] at h4
      rw [h2, List.take_left] at h4
      exact h4.symm
    refine Prod.ext ?_ htx
    show (next (a.t ++ b)).1 = a.k
    have hg1 : (next a.t).1 = a.k := by rw [hg]
    rw [← hg1]
    clear hg1
    have hgt : (next a.t).2 = a.t := by rw [hg]
    rw [hcr] at htx hgt ⊢
    rw [List.cons_append] at htx ⊢
    cases hl : isLetter c with
    | true =>
      rw [next_letter hl] at htx hgt ⊢
      rw [next_letter hl]
      dsimp only at htx hgt ⊢
      rw [htx, hgt]
    | false =>
      by_cases hn : numN (c :: (r ++ b)) > 0
      · have hdg := numN_digit hn
        rw [next_digits hl hn]
        by_cases hn2 : numN (c :: r) > 0
        · rw [next_digits hl hn2]
        · rw [next_else hl hn2] at hgt
          cases hs : signAt (c :: r) with
          | none => rw [hs] at hgt; cases hgt
          | some s => have := (signAt_first hs).2.2.1; rw [hdg] at this; cases this
      · rw [next_else hl hn] at htx ⊢
        cases hs : signAt (c :: (r ++ b)) with
        | none => rw [hs] at htx; cases htx
        | some s =>
          have hdg := (signAt_first hs).2.2.1
          rw [next_else hl (by rw [numN_zero r hdg]; omega)] at hgt ⊢
          cases hs2 : signAt (c :: r) with
          | none => rw [hs2] at hgt; cases hgt
          | some s2 => rfl
def apartT (a b : T) : Bool := decide (a.k ≠ 5) && decide ((next (a.t ++ b.t)).2.length ≠ a.t.length)
def outT : T → List T → Bs
  | _, [] => []
  | la, t :: ts => if t.k = 5 then outT la ts else (if apartT la t = true then [32] ++ t.t else t.t) ++ outT t ts
end Go.Proofs.YteobbnehdlcphaaDoor.Tok

