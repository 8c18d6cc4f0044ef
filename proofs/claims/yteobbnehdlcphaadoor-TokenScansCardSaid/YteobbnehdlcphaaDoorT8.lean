/- Plain laws of tokens that were scanned, and of writing them out. No program. -/
import Derived.Test.YteobbnehdlcphaaDoorT4
namespace Go.Proofs.YteobbnehdlcphaaDoor.Tok
theorem tw_idem (p : UInt8 → Bool) : ∀ l : Bs, (l.takeWhile p).takeWhile p = l.takeWhile p
  | [] => rfl
  | c :: r => by
    cases h : p c
    · simp [h]
    · simp [h, tw_idem p r]
theorem wl_take (p : UInt8 → Bool) : ∀ (l : Bs) (m : Nat), wl p (l.take m) = min (wl p l) m
  | [], m => by simp [wl_nil]
  | c :: r, 0 => by simp [wl_nil]
  | c :: r, m + 1 => by
    rw [List.take_succ_cons]
    cases h : p c
    · rw [wl_neg _ h, wl_neg _ h]; omega
    · rw [wl_pos _ h, wl_pos _ h, wl_take p r m]; omega
theorem numN_take (l : Bs) : numN (l.take (numN l)) = numN l := by
  by_cases h : wl isDigit l > 0 ∧ l[wl isDigit l]? = some 46 ∧ wl isDigit (l.drop (wl isDigit l + 1)) > 0
  · have hn : numN l = wl isDigit l + 1 + wl isDigit (l.drop (wl isDigit l + 1)) := by unfold numN; rw [if_pos h]
    obtain ⟨h1, h2, h3⟩ := h
    have h4 : wl isDigit (l.take (numN l)) = wl isDigit l := by rw [wl_take, hn]; omega
    have h5 : (l.take (numN l))[wl isDigit l]? = some 46 := by rw [List.getElem?_take_of_lt (by omega), h2]
    have h6 : wl isDigit ((l.take (numN l)).drop (wl isDigit l + 1)) = wl isDigit (l.drop (wl isDigit l + 1)) := by
      rw [List.drop_take, wl_take, hn]; omega
    generalize hx : l.take (numN l) = x at *
    unfold numN
    rw [h4, h6, if_pos ⟨h1, h5, h3⟩, ← hn]
    rw [if_pos ⟨h1, h2, h3⟩]
  · have hn : numN l = wl isDigit l := by unfold numN; rw [if_neg h]
    have h4 : wl isDigit (l.take (numN l)) = wl isDigit l := by rw [wl_take, hn]; omega
    have h5 : (l.take (numN l))[wl isDigit l]? = none := by rw [List.getElem?_eq_none_iff, List.length_take]; omega
    rw [hn] at h4 h5 ⊢
    unfold numN
    rw [h4, h5, if_neg (by simp)]
theorem sign_again : ∀ s ∈ signs, signAt s = some s := by
  have h : (signs.all fun s => signAt s == some s) = true := by decide
  intro s hs
  exact beq_iff_eq.1 (List.all_eq_true.1 h s hs)
theorem numN_digit {c : UInt8} {r : Bs} (h : numN (c :: r) > 0) : isDigit c = true := by
  cases hd : isDigit c with
  | true => rfl
  | false => rw [numN_zero r hd] at h; omega
theorem hd_cons (p : UInt8 → Bool) (c : UInt8) (r : Bs) : hd p (c :: r) = p c := rfl
theorem next_letter {c : UInt8} {r : Bs} (h : isLetter c = true) : next (c :: r) = (if isWord ((c :: r : Bs).takeWhile isIn) = true then 2 else 1, (c :: r : Bs).takeWhile isIn) := by
  unfold next
  rw [if_pos (show hd isLetter (c :: r) = true from h)]
theorem next_digits {c : UInt8} {r : Bs} (h : isLetter c = false) (h2 : numN (c :: r) > 0) : next (c :: r) = (3, (c :: r : Bs).take (numN (c :: r))) := by
  unfold next
  rw [if_neg (by simp [hd, h]), if_pos h2]
theorem next_else {c : UInt8} {r : Bs} (h : isLetter c = false) (h2 : ¬ numN (c :: r) > 0) : next (c :: r) = match signAt (c :: r) with | some s => (4, s) | none => (0, []) := by
  unfold next
  rw [if_neg (by simp [hd, h]), if_neg h2]
  rfl
/-- A token, scanned alone, is itself. -/
theorem next_again (l : Bs) (h : (next l).1 ≠ 0) : next (next l).2 = next l ∧ (next l).1 ≠ 5 := by
  cases l with
  | nil => exact absurd rfl h
  | cons c r =>
    cases hl : isLetter c with
    | true =>
      rw [next_letter hl]
      have hin := letter_in hl
      have h1 := tw_idem isIn (c :: r)
      have h2 : (c :: r : Bs).takeWhile isIn = c :: r.takeWhile isIn := by rw [List.takeWhile_cons, hin]; rfl
      dsimp only
      rw [h2, next_letter hl, ← h2, h1]
      exact ⟨rfl, by split <;> decide⟩
    | false =>
      by_cases hn : numN (c :: r) > 0
      · rw [next_digits hl hn]
        have h1 := numN_take (c :: r)
        have h3 : ∃ m, numN (c :: r) = m + 1 := ⟨numN (c :: r) - 1, by omega⟩
        obtain ⟨m, h3⟩ := h3
        have h2 : (c :: r : Bs).take (numN (c :: r)) = c :: r.take m := by rw [h3]; rfl
        dsimp only
        rw [h2, next_digits hl (by rw [← h2, h1]; exact hn), ← h2, h1, List.take_take, Nat.min_self]
        exact ⟨rfl, by decide⟩
      · rw [next_else hl hn] at h ⊢
        cases hs : signAt (c :: r) with
        | none => rw [hs] at h; exact absurd rfl h
        | some s =>
          dsimp only
          have hmem := (signAt_some hs).1
          obtain ⟨d, t, rfl, _, h5, h6, _⟩ := sign_first s hmem
          rw [next_else h5 (by rw [numN_zero t h6]; omega), sign_again _ hmem]
          exact ⟨rfl, by decide⟩
/-- What scanning gives: tokens that are themselves, or the end. -/
def Good (t : T) : Prop := (t.k = 5 ∧ t.t = []) ∨ (t.k ≠ 5 ∧ t.t ≠ [] ∧ next t.t = (t.k, t.t))
theorem scan_good : ∀ (n : Nat) (l : Bs) (a : Nat), (scanF n l a).1.length ≤ n ∧ ∀ t ∈ (scanF n l a).1, Good t ∧ t.t.length ≤ l.length
  | 0, l, a => ⟨Nat.le_refl _, fun t h => by cases h⟩
  | n + 1, l, a => by
    have hsl := skip_le l
    unfold scanF
    by_cases h1 : skip l = []
    · rw [if_pos h1]
      refine ⟨by simp, fun t ht => ?_⟩
      simp only [List.mem_singleton] at ht
      subst ht
      exact ⟨.inl ⟨rfl, rfl⟩, Nat.zero_le _⟩
    · rw [if_neg h1]
      by_cases h2 : (next (skip l)).1 = 0
      · rw [if_pos h2]; exact ⟨Nat.zero_le _, fun t h => by cases h⟩
      · rw [if_neg h2]
        by_cases h3 : (next (skip l)).2.length > 24 ∧ (next (skip l)).1 = 1
        · rw [if_pos h3]; exact ⟨Nat.zero_le _, fun t h => by cases h⟩
        · rw [if_neg h3]
          have ih := scan_good n ((skip l).drop (next (skip l)).2.length) (a + (l.length - (skip l).length) + (next (skip l)).2.length)
          have hna := next_again (skip l) h2
          have hnt := next_text (skip l) h2
          have hnl := next_len_le (skip l)
          rw [List.length_drop] at ih
          generalize scanF n ((skip l).drop (next (skip l)).2.length) (a + (l.length - (skip l).length) + (next (skip l)).2.length) = x at ih
          obtain ⟨ts, p, e⟩ := x
          dsimp only at ih
          split
          · rename_i heq
            injection heq with h4 _
            subst h4
            refine ⟨by simp only [List.length_cons]; omega, fun t ht => ?_⟩
            rcases List.mem_cons.1 ht with rfl | ht
            · refine ⟨.inr ⟨hna.2, ?_, hna.1⟩, by dsimp only; omega⟩
              intro h0
              have := hnt.2
              dsimp only at h0
              rw [h0] at this
              exact absurd this (by decide)
            · exact ⟨(ih.2 t ht).1, by have := (ih.2 t ht).2; omega⟩
          · exact ⟨Nat.zero_le _, fun t h => by cases h⟩
/-! whether two tokens must stay apart -/
def nameN (l : Bs) : Nat := if hd isLetter l = true then wl isIn l else 0
def signN (l : Bs) : Nat := match signAt l with | some s => s.length | none => 0
theorem signN_zero {c : UInt8} {r : Bs} (h : isLetter c = true ∨ isDigit c = true) : signN (c :: r) = 0 := by
  unfold signN
  cases hs : signAt (c :: r) with
  | none => rfl
  | some s =>
    have := signAt_first hs
    rcases h with h | h
    · rw [this.2.1] at h; cases h
    · rw [this.2.2.1] at h; cases h
theorem letter_digit {c : UInt8} (h : isLetter c = true) : isDigit c = false := by
  simp only [isLetter, isDigit, Bool.and_eq_true, decide_eq_true_eq, Bool.and_eq_false_iff, decide_eq_false_iff_not] at *
  omega
/-- The longest of name, number and sign is the token. -/
theorem longest (c : UInt8) (r : Bs) : max (max (nameN (c :: r)) (numN (c :: r))) (signN (c :: r)) = (next (c :: r)).2.length := by
  cases hl : isLetter c with
  | true =>
    rw [next_letter hl, signN_zero (.inl hl), numN_zero r (letter_digit hl)]
    unfold nameN
    rw [if_pos (show hd isLetter (c :: r) = true from hl)]
    unfold wl
    simp
  | false =>
    have h0 : nameN (c :: r) = 0 := by unfold nameN; rw [if_neg (by simp [hd, hl])]
    rw [h0]
    by_cases hn : numN (c :: r) > 0
    · have hle := numN_le (c :: r)
      rw [next_digits hl hn, signN_zero (.inr (numN_digit hn))]
      dsimp only
      rw [List.length_take]
      omega
    · rw [next_else hl hn, show numN (c :: r) = 0 by omega]
      unfold signN
      cases signAt (c :: r) <;> simp
/-- Where the text of the token is the first's, its kind is the first's too. -/
theorem kind_same {a : T} {b : Bs} (ha : a.k ≠ 5) (h : Good a) (h2 : (next (a.t ++ b)).2.length = a.t.length) : next (a.t ++ b) = (a.k, a.t) := by
  rcases h with h | ⟨_, hne, hg⟩
  · exact absurd h.1 ha
  · obtain ⟨c, r, hcr⟩ : ∃ c r, a.t = c :: r := by
      cases h : a.t with
      | nil => exact absurd h hne
      | cons c r => exact ⟨c, r, rfl⟩
    have hk0 : (next (a.t ++ b)).1 ≠ 0 := by
      intro h0
      have h3 : (next (a.t ++ b)).2.length = 0 := by
        rw [hcr, List.cons_append] at h0 ⊢
        cases hl : isLetter c with
        | true => rw [next_letter hl] at h0; dsimp only at h0; split at h0 <;> cases h0
        | false =>
          by_cases hn : numN (c :: (r ++ b)) > 0
          · rw [next_digits hl hn] at h0; cases h0
          · rw [next_else hl hn] at h0 ⊢
            cases hs : signAt (c :: (r ++ b)) with
            | none => rfl
            | some s => rw [hs] at h0; cases h0
      rw [h2, hcr] at h3
      cases h3
    have htx : (next (a.t ++ b)).2 = a.t := by
      have h3 := (next_text (a.t ++ b) hk0).1
      have h4 := congrArg (List.take a.t.length) h3
      rw [← h2, List.take_left] at h4
      rw [h2, List.take_left] at h4
      exact h4.symm
    refine Prod.ext ?_ htx
    show (next (a.t ++ b)).1 = a.k
    have hg1 : (next a.t).1 = a.k := by rw [hg]
    rw [← hg1]
    clear hg1
    have hgt : (next a.t).2 = a.t := by rw [hg]
    rw [hcr] at htx hgt ⊢
    rw [List.cons_append] at htx ⊢
    cases hl : isLetter c with
    | true =>
      rw [next_letter hl] at htx hgt ⊢
      rw [next_letter hl]
      dsimp only at htx hgt ⊢
      rw [htx, hgt]
    | false =>
      by_cases hn : numN (c :: (r ++ b)) > 0
      · have hdg := numN_digit hn
        rw [next_digits hl hn]
        by_cases hn2 : numN (c :: r) > 0
        · rw [next_digits hl hn2]
        · rw [next_else hl hn2] at hgt
          cases hs : signAt (c :: r) with
          | none => rw [hs] at hgt; cases hgt
          | some s => have := (signAt_first hs).2.2.1; rw [hdg] at this; cases this
      · rw [next_else hl hn] at htx ⊢
        cases hs : signAt (c :: (r ++ b)) with
        | none => rw [hs] at htx; cases htx
        | some s =>
          have hdg := (signAt_first hs).2.2.1
          rw [next_else hl (by rw [numN_zero r hdg]; omega)] at hgt ⊢
          cases hs2 : signAt (c :: r) with
          | none => rw [hs2] at hgt; cases hgt
          | some s2 => rfl
def apartT (a b : T) : Bool := decide (a.k ≠ 5) && decide ((next (a.t ++ b.t)).2.length ≠ a.t.length)
/-- The tokens, written out. -/
def outT : T → List T → Bs
  | _, [] => []
  | la, t :: ts => if t.k = 5 then outT la ts else (if apartT la t = true then [32] ++ t.t else t.t) ++ outT t ts
end Go.Proofs.YteobbnehdlcphaaDoor.Tok
