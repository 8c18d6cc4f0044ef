/- Tokens over lists of bytes: what both texts, the program's and the reference's, come to. Plain Lean, no program. -/
namespace Go.Proofs.YteobbnehdlcphaaDoor.Tok
abbrev Bs := List UInt8
def isLetter (c : UInt8) : Bool := decide (97 ≤ c.toNat) && decide (c.toNat ≤ 122)
def isDigit (c : UInt8) : Bool := decide (48 ≤ c.toNat) && decide (c.toNat ≤ 57)
def isIn (c : UInt8) : Bool := isLetter c || (isDigit c || c == 95)
def isBlank (c : UInt8) : Bool := c == 32 || (c == 9 || c == 10)
def isAllowed (c : UInt8) : Bool := (decide (32 ≤ c.toNat) && decide (c.toNat ≤ 126)) || (c == 9 || c == 10)
def isRem (c : UInt8) : Bool := c != 10 && isAllowed c
def wl (p : UInt8 → Bool) (l : Bs) : Nat := (l.takeWhile p).length
theorem wl_nil (p : UInt8 → Bool) : wl p [] = 0 := rfl
theorem wl_pos {p : UInt8 → Bool} {c : UInt8} (r : Bs) (h : p c = true) : wl p (c :: r) = wl p r + 1 := by simp [wl, h]
theorem wl_neg {p : UInt8 → Bool} {c : UInt8} (r : Bs) (h : p c = false) : wl p (c :: r) = 0 := by simp [wl, h]
theorem wl_le (p : UInt8 → Bool) : ∀ l : Bs, wl p l ≤ l.length
  | [] => Nat.le_refl _
  | c :: r => by
    cases h : p c
    · rw [wl_neg r h]; exact Nat.zero_le _
    · rw [wl_pos r h]; have := wl_le p r; simp only [List.length_cons]; omega
theorem drop_wl (p : UInt8 → Bool) : ∀ l : Bs, l.drop (wl p l) = l.dropWhile p
  | [] => rfl
  | c :: r => by
    cases h : p c
    · rw [wl_neg r h]; simp [h]
    · rw [wl_pos r h]; simp [h, drop_wl p r]
theorem take_wl (p : UInt8 → Bool) : ∀ l : Bs, l.take (wl p l) = l.takeWhile p
  | [] => rfl
  | c :: r => by
    cases h : p c
    · rw [wl_neg r h]; simp [h]
    · rw [wl_pos r h]; simp [h, take_wl p r]
/-- How long the number at the beginning is. -/
def numN (l : Bs) : Nat :=
  if wl isDigit l > 0 ∧ l[wl isDigit l]? = some 46 ∧ wl isDigit (l.drop (wl isDigit l + 1)) > 0 then wl isDigit l + 1 + wl isDigit (l.drop (wl isDigit l + 1)) else wl isDigit l
theorem numN_le (l : Bs) : numN l ≤ l.length := by
  unfold numN
  split
  · rename_i h
    have h1 := wl_le isDigit (l.drop (wl isDigit l + 1))
    rw [List.length_drop] at h1
    omega
  · exact wl_le _ _
def words : List Bs := [[100, 101, 102], [108, 101, 116], [105, 110], [105, 102], [116, 104, 101, 110], [101, 108, 115, 101], [101, 97, 99, 104], [115, 117, 109], [102, 111, 108, 100], [100, 111, 119, 110], [114, 101, 97, 108], [102, 108, 97, 103], [97, 110, 100], [111, 114], [110, 111, 116], [121, 101, 115], [110, 111]]
def signs : List Bs := [[45, 62], [60, 61], [40], [41], [91], [93], [123], [125], [44], [58], [59], [61], [60], [43], [45], [42], [47]]
/-- The sign at the beginning. -/
def signAt (l : Bs) : Option Bs := signs.find? fun s => s.isPrefixOf l
def isWord (t : Bs) : Bool := words.contains t
/-- Begins with a letter? -/
def hd (p : UInt8 → Bool) : Bs → Bool
  | [] => false
  | c :: _ => p c
/-- The token at the beginning: its kind (0: none) and its text. -/
def next (l : Bs) : Int × Bs :=
  if hd isLetter l = true then (if isWord (l.takeWhile isIn) = true then 2 else 1, l.takeWhile isIn)
  else if numN l > 0 then (3, l.take (numN l))
  else match signAt l with
    | some s => (4, s)
    | none => (0, [])
/-- What is left behind blanks and remarks; n: at most so many remarks. -/
def skipF : Nat → Bs → Bs
  | 0, l => l
  | n + 1, l => match l.dropWhile isBlank with
    | [] => []
    | c :: r => if c = 35 then skipF n ((c :: r).dropWhile isRem) else c :: r
def skip (l : Bs) : Bs := skipF (l.length + 1) l
theorem dropWhile_length (p : UInt8 → Bool) : ∀ l : Bs, (l.dropWhile p).length ≤ l.length
  | [] => Nat.le_refl _
  | c :: r => by
    cases h : p c <;> simp only [List.dropWhile_cons, h, if_true, List.length_cons]
    · simp
    · have := dropWhile_length p r; omega
theorem rem_hash : isRem 35 = true := by decide
theorem rem_drops (r : Bs) : ((35 :: r : Bs).dropWhile isRem).length ≤ r.length := by
  rw [List.dropWhile_cons, rem_hash]
  exact dropWhile_length _ _
/-- Enough remarks: more change nothing. -/
theorem skipF_more : ∀ (n m : Nat) (l : Bs), l.length < n → l.length < m → skipF n l = skipF m l
  | 0, _, l, h, _ => absurd h (Nat.not_lt_zero _)
  | _ + 1, 0, l, _, h => absurd h (Nat.not_lt_zero _)
  | n + 1, m + 1, l, hn, hm => by
    unfold skipF
    have h1 := dropWhile_length isBlank l
    cases hb : l.dropWhile isBlank with
    | nil => rfl
    | cons c r =>
      by_cases hc : c = 35
      · subst hc
        simp only [if_true]
        have h2 := rem_drops r
        rw [hb, List.length_cons] at h1
        exact skipF_more n m _ (by omega) (by omega)
      · simp only [if_neg hc]
theorem skip_nil : skip [] = [] := rfl
theorem skip_eq (l : Bs) : skip l = match l.dropWhile isBlank with
    | [] => []
    | c :: r => if c = 35 then skip ((c :: r).dropWhile isRem) else c :: r := by
  show skipF (l.length + 1) l = _
  unfold skipF
  have h1 := dropWhile_length isBlank l
  cases hb : l.dropWhile isBlank with
  | nil => rfl
  | cons c r =>
    by_cases hc : c = 35
    · subst hc
      simp only [if_true]
      have h2 := rem_drops r
      rw [hb, List.length_cons] at h1
      exact skipF_more _ _ _ (by omega) (by omega)
    · simp only [if_neg hc]
theorem skip_length : ∀ (n : Nat) (l : Bs), l.length ≤ n → (skip l).length ≤ l.length := by
  intro n
  induction n with
  | zero => intro l h; have : l = [] := List.eq_nil_of_length_eq_zero (by omega); subst this; exact Nat.le_refl _
  | succ n ih =>
    intro l h
    rw [skip_eq]
    have h1 := dropWhile_length isBlank l
    cases hb : l.dropWhile isBlank with
    | nil => exact Nat.zero_le _
    | cons c r =>
      rw [hb] at h1
      by_cases hc : c = 35
      · subst hc
        simp only [if_true]
        have h2 := rem_drops r
        rw [List.length_cons] at h1
        have h3 := ih ((35 :: r : Bs).dropWhile isRem) (by omega)
        omega
      · simp only [if_neg hc]; exact h1
theorem skip_le (l : Bs) : (skip l).length ≤ l.length := skip_length l.length l (Nat.le_refl _)
structure T where
  k : Int
  t : Bs
  a : Nat
deriving DecidableEq
/-- The tokens of what is left, from a position on: tokens, and the error's position and number (0: none). -/
def scanF : Nat → Bs → Nat → List T × Int × Int
  | 0, _, _ => ([], 0, 0)
  | n + 1, l, at_ =>
    if skip l = [] then ([⟨5, [], at_ + l.length⟩], 0, 0)
    else if (next (skip l)).1 = 0 then ([], ((at_ + (l.length - (skip l).length) : Nat) : Int), 5)
    else if (next (skip l)).2.length > 24 ∧ (next (skip l)).1 = 1 then ([], ((at_ + (l.length - (skip l).length) : Nat) : Int), 13)
    else match scanF n ((skip l).drop (next (skip l)).2.length) (at_ + (l.length - (skip l).length) + (next (skip l)).2.length) with
      | (ts, p, 0) => (⟨(next (skip l)).1, (next (skip l)).2, at_ + (l.length - (skip l).length)⟩ :: ts, p, 0)
      | (_, p, e) => ([], p, e)
def scan (l : Bs) : List T × Int × Int := scanF (l.length + 1) l 0
/-! What next tells. -/
theorem prefix_append : ∀ {s l : Bs}, s.isPrefixOf l = true → l = s ++ l.drop s.length
  | [], l, _ => by simp
  | c :: s, [], h => by simp at h
  | c :: s, d :: l, h => by
    simp only [List.isPrefixOf, Bool.and_eq_true, beq_iff_eq] at h
    obtain ⟨rfl, h⟩ := h
    have := prefix_append h
    simp only [List.length_cons, List.drop_succ_cons, List.cons_append]
    rw [← this]
theorem signAt_some {l s : Bs} (h : signAt l = some s) : s ∈ signs ∧ l = s ++ l.drop s.length ∧ 0 < s.length := by
  have h1 := List.find?_some h
  have h2 := List.mem_of_find?_eq_some h
  refine ⟨h2, prefix_append h1, ?_⟩
  revert h2
  simp only [signs, List.mem_cons, List.not_mem_nil, or_false]
  rintro (rfl | rfl | rfl | rfl | rfl | rfl | rfl | rfl | rfl | rfl | rfl | rfl | rfl | rfl | rfl | rfl | rfl) <;> decide
theorem letter_in {c : UInt8} (h : isLetter c = true) : isIn c = true := by simp [isIn, h]
/-- A token's text is a beginning, and not empty. -/
theorem next_text (l : Bs) (h : (next l).1 ≠ 0) : l = (next l).2 ++ l.drop (next l).2.length ∧ 0 < (next l).2.length := by
  unfold next at h ⊢
  split at h
  · rename_i hl
    simp only [hl, if_true]
    cases l with
    | nil => simp [hd] at hl
    | cons c r =>
      have hc : isIn c = true := letter_in hl
      refine ⟨?_, by simp [hc]⟩
      have h1 := take_wl isIn (c :: r)
      have h2 : (List.takeWhile isIn (c :: r)).length = wl isIn (c :: r) := rfl
      rw [h2, ← h1, List.take_append_drop]
  · rename_i hl
    simp only [hl]
    split at h
    · rename_i hn
      simp only [hn, if_true]
      have h1 := numN_le l
      have h2 : (l.take (numN l)).length = numN l := by rw [List.length_take]; omega
      refine ⟨?_, by simp only [Bool.false_eq_true, if_false]; omega⟩
      simp only [Bool.false_eq_true, if_false]
      rw [h2, List.take_append_drop]
    · rename_i hn
      simp only [hn, if_false, Bool.false_eq_true]
      cases hs : signAt l with
      | none => simp [hs] at h
      | some s => exact ⟨(signAt_some hs).2.1, (signAt_some hs).2.2⟩
theorem next_len_le (l : Bs) : (next l).2.length ≤ l.length := by
  by_cases h : (next l).1 = 0
  · unfold next at h ⊢
    split at h
    · split at h <;> simp at h
    · rename_i hl
      simp only [hl, Bool.false_eq_true, if_false]
      split at h
      · simp at h
      · rename_i hn
        simp only [hn, if_false]
        cases hs : signAt l with
        | none => exact Nat.zero_le _
        | some s => simp [hs] at h
  · have := (next_text l h).1
    have h2 := congrArg List.length this
    rw [List.length_append] at h2
    omega
end Go.Proofs.YteobbnehdlcphaaDoor.Tok
