namespace Go.Proofs.YteobbnehdlcphaaDoor.Tok
abbrev Bs := List UInt8
def isLetter (c : UInt8) : Bool := decide (97 ≤ c.toNat) && decide (c.toNat ≤ 122)
def isDigit (c : UInt8) : Bool := decide (48 ≤ c.toNat) && decide (c.toNat ≤ 57)
def isIn (c : UInt8) : Bool := isLetter c || (isDigit c || c == 95)
def isBlank (c : UInt8) : Bool := c == 32 || (c == 9 || c == 10)
def isAllowed (c : UInt8) : Bool := (decide (32 ≤ c.toNat) && decide (c.toNat ≤ 126)) || (c == 9 || c == 10)
def isRem (c : UInt8) : Bool := c != 10 && isAllowed c
def wl (p : UInt8 → Bool) (l : Bs) : Nat := (l.takeWhile p).length
theorem wl_nil (p : UInt8 → Bool) : wl p [] = 0 := rfl
theorem wl_pos {p : UInt8 → Bool} {c : UInt8} (r : Bs) (h : p c = true) : wl p (c :: r) = wl p r + 1 := by simp [wl, h]
theorem wl_neg {p : UInt8 → Bool} {c : UInt8} (r : Bs) (h : p c = false) : wl p (c :: r) = 0 := by simp [wl, h]
theorem wl_le (p : UInt8 → Bool) : ∀ l : Bs, wl p l ≤ l.length
  | [] => Nat.le_refl _
  | c :: r => by
    cases h : p c
    · rw [wl_neg r h]; exact Nat.zero_le _
    · rw [wl_pos r h]; have := wl_le p r; simp only [List.length_cons]; omega
theorem take_wl (p : UInt8 → Bool) : ∀ l : Bs, l.take (wl p l) = l.takeWhile p
  | [] => rfl
  | c :: r => by
    cases h : p c
    · rw [wl_neg r h]; simp [h]
    · rw [wl_pos r h]; simp [h, take_wl p r]
def numN (l : Bs) : Nat :=
  if wl isDigit l > 0 ∧ l[wl isDigit l]? = some 46 ∧ wl isDigit (l.drop (wl isDigit l + 1)) > 0 then wl isDigit l + 1 + wl isDigit (l.drop (wl isDigit l + 1)) else wl isDigit l
theorem numN_le (l : Bs) : numN l ≤ l.length := by
  unfold numN
  split
  · rename_i h
    have h1 := wl_le isDigit (l.drop (wl isDigit l + 1))
    rw [List.length_drop] at h1
    omega
  · exact wl_le _ _
def words : List Bs := [[100, 101, 102], [108, 101, 116], [105, 110], [105, 102], [116, 104, 101, 110], [101, 108, 115, 101], [101, 97, 99, 104], [115, 117, 109], [102, 111, 108, 100], [100, 111, 119, 110], [114, 101, 97, 108], [102, 108, 97, 103], [97, 110, 100], [111, 114], [110, 111, 116], [121, 101, 115], [110, 111]]
def signs : List Bs := [[45, 62], [60, 61], [40], [41], [91], [93], [123], [125], [44], [58], [59], [61], [60], [43], [45], [42], [47]]
def signAt (l : Bs) : Option Bs := signs.find? fun s => s.isPrefixOf l
def isWord (t : Bs) : Bool := words.contains t
def hd (p : UInt8 → Bool) : Bs → Bool
  | [] => false
  | c :: _ => p c
def next (l : Bs) : Int × Bs :=
  if hd isLetter l = true then (if isWord (l.takeWhile isIn) = true then 2 else 1, l.takeWhile isIn)
  else if numN l > 0 then (3, l.take (numN l))
  else match signAt l with
    | some s => (4, s)
    | none => (0, [])
def skipF : Nat → Bs → Bs
  | 0, l => l
  | n + 1, l => match l.dropWhile isBlank with
    | [] => []
    | c :: r => if c = 35 then skipF n ((c :: r).dropWhile isRem) else c :: r
def skip (l : Bs) : Bs := skipF (l.length + 1) l
structure T where
  k : Int
  t : Bs
  a : Nat
deriving DecidableEq
theorem prefix_append : ∀ {s l : Bs}, s.isPrefixOf l = true → l = s ++ l.drop s.length
  | [], l, _ => by simp
  | c :: s, [], h => by simp at h
  | c :: s, d :: l, h => by
    simp only [List.isPrefixOf, Bool.and_eq_true, beq_iff_eq] at h
    obtain ⟨rfl, h⟩ := h
    have := prefix_append h
    simp only [List.length_cons, List.drop_succ_cons, List.cons_append]
    rw [← this]
theorem signAt_some {l s : Bs} (h : signAt l = some s) : s ∈ signs ∧ l = s ++ l.drop s.length ∧ 0 < s.length := by
  have h1 := List.find?_some h
  have h2 := List.mem_of_find?_eq_some h
  refine ⟨h2, prefix_append h1, ?_⟩
  revert h2
  simp only [signs, List.mem_cons, List.not_mem_nil, or_false]
  rintro (rfl | rfl | rfl | rfl | rfl | rfl | rfl | rfl | rfl | rfl | rfl | rfl | rfl | rfl | rfl | rfl | rfl) <;> decide
theorem letter_in {c : UInt8} (h : isLetter c = true) : isIn c = true := by simp [isIn, h]
theorem next_text (l : Bs) (h : (next l).1 ≠ 0) : l = (next l).2 ++ l.drop (next l).2.length ∧ 0 < (next l).2.length := by
  unfold next at h ⊢
  split at h
  · rename_i hl
    simp only [hl, if_true]
    cases l with
    | nil => simp [hd] at hl
    | cons c r =>
      have hc : isIn c = true := letter_in hl
      refine ⟨?_, by simp [hc]⟩
      have h1 := take_wl isIn (c :: r)
      have h2 : (List.takeWhile isIn (c :: r)).length = wl isIn (c :: r) := rfl
      rw [h2, ← h1, List.take_append_drop]
  · rename_i hl
    simp only [hl]
    split at h
    · rename_i hn
      simp only [hn, if_true]
      have h1 := numN_le l
      have h2 : (l.take (numN l)).length = numN l := by rw [List.length_take]; omega
      refine ⟨?_, by simp only [Bool.false_eq_true, if_false]; omega⟩
      simp only [Bool.false_eq_true, if_false]
      rw [h2, List.take_append_drop]
    · rename_i hn
      simp only [hn, if_false, Bool.false_eq_true]
      cases hs : signAt l with
      | none => simp [hs] at h
      | some s => exact ⟨(signAt_some hs).2.1, (signAt_some hs).2.2⟩
end Go.Proofs.YteobbnehdlcphaaDoor.Tok
namespace Go.Proofs.YteobbnehdlcphaaDoor.Tok
theorem numN_zero {c : UInt8} (r : Bs) (h : isDigit c = false) : numN (c :: r) = 0 := by
  unfold numN
  rw [wl_neg r h, if_neg (by omega)]
theorem sign_first : ∀ s ∈ signs, ∃ c t, s = c :: t ∧ isAllowed c = true ∧ isLetter c = false ∧ isDigit c = false ∧ isBlank c = false ∧ c ≠ 35 := by
  simp only [signs, List.mem_cons, List.not_mem_nil, or_false]
  rintro s (rfl | rfl | rfl | rfl | rfl | rfl | rfl | rfl | rfl | rfl | rfl | rfl | rfl | rfl | rfl | rfl | rfl) <;> exact ⟨_, _, rfl, by decide, by decide, by decide, by decide, by decide⟩
theorem signAt_first {c : UInt8} {r s : Bs} (h : signAt (c :: r) = some s) : isAllowed c = true ∧ isLetter c = false ∧ isDigit c = false ∧ isBlank c = false ∧ c ≠ 35 := by
  obtain ⟨h1, h2, _⟩ := signAt_some h
  obtain ⟨d, t, rfl, h3⟩ := sign_first s h1
  simp only [List.cons_append, List.cons.injEq] at h2
  rw [h2.1]; exact h3
end Go.Proofs.YteobbnehdlcphaaDoor.Tok
namespace Go.Proofs.YteobbnehdlcphaaDoor.Tok
theorem numN_digit {c : UInt8} {r : Bs} (h : numN (c :: r) > 0) : isDigit c = true := by
  cases hd : isDigit c with
  | true => rfl
  | false => rw [numN_zero r hd] at h; omega
theorem next_letter {c : UInt8} {r : Bs} (h : isLetter c = true) : next (c :: r) = (if isWord ((c :: r : Bs).takeWhile isIn) = true then 2 else 1, (c :: r : Bs).takeWhile isIn) := by
  unfold next
  rw [if_pos (show hd isLetter (c :: r) = true from h)]
theorem next_digits {c : UInt8} {r : Bs} (h : isLetter c = false) (h2 : numN (c :: r) > 0) : next (c :: r) = (3, (c :: r : Bs).take (numN (c :: r))) := by
  unfold next
  rw [if_neg (by simp [hd, h]), if_pos h2]
theorem next_else {c : UInt8} {r : Bs} (h : isLetter c = false) (h2 : ¬ numN (c :: r) > 0) : next (c :: r) = match signAt (c :: r) with | some s => (4, s) | none => (0, []) := by
  unfold next
  rw [if_neg (by simp [hd, h]), if_neg h2]
def Good (t : T) : Prop := (t.k = 5 ∧ t.t = []) ∨ (t.k ≠ 5 ∧ t.t ≠ [] ∧ next t.t = (t.k, t.t))
def nameN (l : Bs) : Nat := if hd isLetter l = true then wl isIn l else 0
def signN (l : Bs) : Nat := match signAt l with | some s => s.length | none => 0
theorem signN_zero {c : UInt8} {r : Bs} (h : isLetter c = true ∨ isDigit c = true) : signN (c :: r) = 0 := by
  unfold signN
  cases hs : signAt (c :: r) with
  | none => rfl
  | some s =>
    have := signAt_first hs
    rcases h with h | h
    · rw [this.2.1] at h; cases h
    · rw [this.2.2.1] at h; cases h
theorem letter_digit {c : UInt8} (h : isLetter c = true) : isDigit c = false := by
  simp only [isLetter, isDigit, Bool.and_eq_true, decide_eq_true_eq, Bool.and_eq_false_iff, decide_eq_false_iff_not] at *
  omega
theorem longest (c : UInt8) (r : Bs) : max (max (nameN (c :: r)) (numN (c :: r))) (signN (c :: r)) = (next (c :: r)).2.length := by
  cases hl : isLetter c with
  | true =>
    rw [next_letter hl, signN_zero (.inl hl), numN_zero r (letter_digit hl)]
    unfold nameN
    rw [if_pos (show hd isLetter (c :: r) = true from hl)]
    unfold wl
    simp
  | false =>
    have h0 : nameN (c :: r) = 0 := by unfold nameN; rw [if_neg (by simp [hd, hl])]
    rw [h0]
    by_cases hn : numN (c :: r) > 0
    · have hle := numN_le (c :: r)
      rw [next_digits hl hn, signN_zero (.inr (numN_digit hn))]
      dsimp only
      rw [List.length_take]
      omega
    · rw [next_else hl hn, show numN (c :: r) = 0 by omega]
      unfold signN
      cases signAt (c :: r) <;> simp
theorem kind_same {a : T} {b : Bs} (ha : a.k ≠ 5) (h : Good a) (h2 : (next (a.t ++ b)).2.length = a.t.length) : next (a.t ++ b) = (a.k, a.t) := by
  rcases h with h | ⟨_, hne, hg⟩
  · exact absurd h.1 ha
  · obtain ⟨c, r, hcr⟩ : ∃ c r, a.t = c :: r := by
      cases h : a.t with
      | nil => exact absurd h hne
      | cons c r => exact ⟨c, r, rfl⟩
    have hk0 : (next (a.t ++ b)).1 ≠ 0 := by
      intro h0
      have h3 : (next (a.t ++ b)).2.length = 0 := by
        rw [hcr, List.cons_append] at h0 ⊢
        cases hl : isLetter c with
        | true => rw [next_letter hl] at h0; dsimp only at h0; split at h0 <;> cases h0
        | false =>
          by_cases hn : numN (c :: (r ++ b)) > 0
          · rw [next_digits hl hn] at h0; cases h0
          · rw [next_else hl hn] at h0 ⊢
            cases hs : signAt (c :: (r ++ b)) with
            | none => rfl
            | some s => rw [hs] at h0; cases h0
      rw [h2, hcr] at h3
      cases h3
    have htx : (next (a.t ++ b)).2 = a.t := by
      have h3 := (next_text (a.t ++ b) hk0).1
      have h4 := congrArg (List.take a.t.length) h3
      rw [← h2, List.take_left] at h4
      rw [h2, List.take_left] at h4
      exact h4.symm
    refine Prod.ext ?_ htx
    show (next (a.t ++ b)).1 = a.k
    have hg1 : (next a.t).1 = a.k := by rw [hg]
    rw [← hg1]
    clear hg1
    have hgt : (next a.t).2 = a.t := by rw [hg]
    rw [hcr] at htx hgt ⊢
    rw [List.cons_append] at htx ⊢
    cases hl : isLetter c with
    | true =>
      rw [next_letter hl] at htx hgt ⊢
      rw [next_letter hl]
      dsimp only at htx hgt ⊢
      rw [htx, hgt]
    | false =>
      by_cases hn : numN (c :: (r ++ b)) > 0
      · have hdg := numN_digit hn
        rw [next_digits hl hn]
        by_cases hn2 : numN (c :: r) > 0
        · rw [next_digits hl hn2]
        · rw [next_else hl hn2] at hgt
          cases hs : signAt (c :: r) with
          | none => rw [hs] at hgt; cases hgt
          | some s => have := (signAt_first hs).2.2.1; rw [hdg] at this; cases this
      · rw [next_else hl hn] at htx ⊢
        cases hs : signAt (c :: (r ++ b)) with
        | none => rw [hs] at htx; cases htx
        | some s =>
          have hdg := (signAt_first hs).2.2.1
          rw [next_else hl (by rw [numN_zero r hdg]; omega)] at hgt ⊢
          cases hs2 : signAt (c :: r) with
          | none => rw [hs2] at hgt; cases hgt
          | some s2 => rfl
def apartT (a b : T) : Bool := decide (a.k ≠ 5) && decide ((next (a.t ++ b.t)).2.length ≠ a.t.length)
def outT : T → List T → Bs
  | _, [] => []
  | la, t :: ts => if t.k = 5 then outT la ts else (if apartT la t = true then [32] ++ t.t else t.t) ++ outT t ts
end Go.Proofs.YteobbnehdlcphaaDoor.Tok

