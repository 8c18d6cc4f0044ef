import Derived.Test.YteobbnehdlcphaaDoorQJP0
import Derived.Test.YteobbnehdlcphaaDoorQJP15
import Derived.Test.YteobbnehdlcphaaDoorQJP2
import Derived.Test.YteobbnehdlcphaaDoorQJP6
import Derived.Test.YteobbnehdlcphaaDoorQJP11
import Derived.Test.YteobbnehdlcphaaDoorQJP14
import Derived.Test.YteobbnehdlcphaaDoorQJG
import Derived.Test.YteobbnehdlcphaaDoorQJTE
namespace Go.Proofs.YteobbnehdlcphaaDoor.Tok
theorem tw_all {p : UInt8 → Bool} : ∀ {l : Bs}, wl p l = l.length → l.takeWhile p = l
  | [], _ => rfl
  | c :: r, h => by
    cases hc : p c
    · rw [wl_neg r hc] at h; cases h
    · rw [wl_pos r hc, List.length_cons] at h
      rw [List.takeWhile_cons, hc]
      have := tw_all (p := p) (l := r) (by omega)
      rw [if_pos rfl, this]
theorem word_next : ∀ w ∈ words, next w = (2, w) ∧ w ≠ [] := by
  have h : (words.all fun w => decide (next w = (2, w) ∧ w ≠ [])) = true := by decide
  intro w hw
  exact of_decide_eq_true (List.all_eq_true.1 h w hw)
def wholeT (k : Int) (l : Bs) : Bool := decide (l ≠ [] ∧ next l = (k, l))
theorem whole_word (l : Bs) : wholeT 2 l = isWord l := by
  rw [Bool.eq_iff_iff]
  unfold wholeT
  rw [decide_eq_true_eq]
  constructor
  · rintro ⟨hne, h⟩
    cases l with
    | nil => exact absurd rfl hne
    | cons c r =>
      cases hl : isLetter c with
      | true =>
        rw [next_letter hl] at h
        injection h with h1 h2
        rw [h2] at h1
        by_cases hw : isWord (c :: r) = true
        · exact hw
        · rw [if_neg hw] at h1; cases h1
      | false =>
        by_cases hn : numN (c :: r) > 0
        · rw [next_digits hl hn] at h; injection h with h1 _; cases h1
        · rw [next_else hl hn] at h
          cases hs : signAt (c :: r) with
          | none => rw [hs] at h; injection h with h1 _; cases h1
          | some s => rw [hs] at h; injection h with h1 _; cases h1
  · intro h
    have h1 : l ∈ words := List.contains_iff_mem.1 h
    exact ⟨(word_next l h1).2, (word_next l h1).1⟩
theorem whole_name (l : Bs) : wholeT 1 l = (decide (l ≠ [] ∧ nameN l = l.length) && !isWord l) := by
  rw [Bool.eq_iff_iff]
  unfold wholeT
  rw [decide_eq_true_eq, Bool.and_eq_true, decide_eq_true_eq, Bool.not_eq_true']
  cases l with
  | nil => simp
  | cons c r =>
    cases hl : isLetter c with
    | true =>
      have hnm : nameN (c :: r) = wl isIn (c :: r) := by unfold nameN; rw [if_pos (show hd isLetter (c :: r) = true from hl)]
      rw [next_letter hl, hnm]
      constructor
      · rintro ⟨hne, h⟩
        injection h with h1 h2
        rw [h2] at h1
        refine ⟨⟨hne, ?_⟩, ?_⟩
        · unfold wl; rw [h2]
        · cases hw : isWord (c :: r) with
          | false => rfl
          | true => rw [hw, if_pos rfl] at h1; cases h1
      · rintro ⟨⟨hne, h⟩, hw⟩
        refine ⟨hne, ?_⟩
        rw [tw_all h, hw]
        rfl
    | false =>
      have hnm : nameN (c :: r) = 0 := by unfold nameN; rw [if_neg (by simp [hd, hl])]
      rw [hnm]
      constructor
      · rintro ⟨hne, h⟩
        by_cases hn : numN (c :: r) > 0
        · rw [next_digits hl hn] at h; injection h with h1 _; cases h1
        · rw [next_else hl hn] at h
          cases hs : signAt (c :: r) with
          | none => rw [hs] at h; injection h with h1 _; cases h1
          | some s => rw [hs] at h; injection h with h1 _; cases h1
      · rintro ⟨⟨_, h⟩, _⟩
        cases h
theorem whole_number (l : Bs) : wholeT 3 l = decide (l ≠ [] ∧ numN l = l.length) := by
  unfold wholeT
  rw [decide_eq_decide]
  cases l with
  | nil => simp
  | cons c r =>
    cases hl : isLetter c with
    | true =>
      rw [next_letter hl, numN_zero r (letter_digit hl)]
      constructor
      · rintro ⟨_, h⟩
        injection h with h1 _
        split at h1 <;> cases h1
      · rintro ⟨_, h⟩; cases h
    | false =>
      by_cases hn : numN (c :: r) > 0
      · rw [next_digits hl hn]
        have hle := numN_le (c :: r)
        constructor
        · rintro ⟨hne, h⟩
          injection h with _ h2
          have h3 := congrArg List.length h2
          rw [List.length_take] at h3
          exact ⟨hne, by omega⟩
        · rintro ⟨hne, h⟩
          exact ⟨hne, by rw [h, List.take_length]⟩
      · rw [next_else hl hn]
        constructor
        · rintro ⟨_, h⟩
          cases hs : signAt (c :: r) with
          | none => rw [hs] at h; injection h with h1 _; cases h1
          | some s => rw [hs] at h; injection h with h1 _; cases h1
        · rintro ⟨_, h⟩
          rw [List.length_cons] at h
          omega
end Go.Proofs.YteobbnehdlcphaaDoor.Tok
namespace Go.Proofs.YteobbnehdlcphaaDoor.P
open Go.RowKit Go.Proofs.YteobbnehdlcphaaDoorW.PrintWords Go.Proofs.YteobbnehdlcphaaDoorW.PrintLast Go.Proofs.YteobbnehdlcphaaDoorW.PrintMore
open Go.Proofs.YteobbnehdlcphaaDoor
attribute [local irreducible] bt
theorem ev_whole (s : ByteArray) (hs : Sm s) (kd : Int) : Ev (fun k => token_whole.f k s kd) (Tok.wholeT kd s.data.toList) := by
  unfold Tok.wholeT
  by_cases h0 : s.data.toList = []
  · rw [decide_eq_false (fun h => h.1 h0)]
    refine ⟨0, fun k _ => ?_⟩
    show token_whole.f k s kd = _
    unfold token_whole.f
    rw [toList_eq, if_pos h0]
  · obtain ⟨K, e⟩ := ev_next s hs h0
    dsimp only at e
    generalize Tok.next s.data.toList = nx at *
    obtain ⟨nk, nt⟩ := nx
    dsimp only at e
    refine ⟨K, fun k hk => ?_⟩
    show token_whole.f k s kd = _
    unfold token_whole.f
    rw [toList_eq, if_neg h0]
    refine bind_of (e k hk) ?_
    dsimp only
    by_cases hk0 : nk = kd
    · rw [if_pos hk0, toB_toList]
      congr 1
      rw [Bool.eq_iff_iff, beq_iff_eq, decide_eq_true_eq]
      constructor
      · intro h; exact ⟨h0, by rw [hk0, h]⟩
      · rintro ⟨_, h⟩; injection h
    · rw [if_neg hk0, decide_eq_false (fun h => hk0 (congrArg Prod.fst h.2))]
theorem ev_IsName (s : ByteArray) (hs : Sm s) : Ev (fun k => token_IsName.f k s) (decide (s.size ≤ 24) && Tok.wholeT 1 s.data.toList) := by
  by_cases h : s.size ≤ 24
  · obtain ⟨K, e⟩ := ev_whole s hs 1
    refine ⟨K, fun k hk => ?_⟩
    show token_IsName.f k s = _
    unfold token_IsName.f
    rw [if_pos (by omega), decide_eq_true h, Bool.true_and]
    exact bind_of (e k hk) rfl
  · refine ⟨0, fun k _ => ?_⟩
    show token_IsName.f k s = _
    unfold token_IsName.f
    rw [if_neg (by omega), decide_eq_false h, Bool.false_and]
theorem ev_rIsName (s : ByteArray) (hs : Sm s) : Ev (fun k => fluxionref04_IsName.f k s) (decide (s.size ≤ 24) && Tok.wholeT 1 s.data.toList) := by
  rw [Tok.whole_name]
  by_cases h0 : s.data.toList = []
  · rw [decide_eq_false (p := s.data.toList ≠ [] ∧ _) (fun h => h.1 h0), Bool.false_and, Bool.and_false]
    refine ⟨0, fun k _ => ?_⟩
    show fluxionref04_IsName.f k s = _
    unfold fluxionref04_IsName.f
    rw [toList_eq, if_pos h0]
  · obtain ⟨K1, e1⟩ := ev_rname s hs 0 (Nat.zero_le _)
    obtain ⟨K2, e2⟩ := ev_rIsWord s
    dsimp only at e1 e2
    rw [List.drop_zero] at e1
    refine ⟨K1 + K2, fun k hk => ?_⟩
    show fluxionref04_IsName.f k s = _
    unfold fluxionref04_IsName.f
    rw [toList_eq, if_neg h0]
    refine bind_of (e1 k (by omega)) ?_
    by_cases h1 : Tok.nameN s.data.toList = s.data.toList.length
    · rw [decide_eq_true (p := s.data.toList ≠ [] ∧ _) ⟨h0, h1⟩, Bool.true_and]
      rw [len_eq] at h1
      rw [if_pos (by omega)]
      by_cases h2 : s.size ≤ 24
      · rw [if_pos (by omega), decide_eq_true h2, Bool.true_and]
        exact bind_of (e2 k (by omega)) rfl
      · rw [if_neg (by omega), decide_eq_false h2, Bool.false_and]
    · rw [decide_eq_false (p := s.data.toList ≠ [] ∧ _) (fun h => h1 h.2), Bool.false_and, Bool.and_false]
      rw [len_eq] at h1
      rw [if_neg (by omega)]
theorem ev_rIsNumber (s : ByteArray) (hs : Sm s) : Ev (fun k => fluxionref04_IsNumber.f k s) (Tok.wholeT 3 s.data.toList) := by
  rw [Tok.whole_number]
  by_cases h0 : s.data.toList = []
  · rw [decide_eq_false (fun h => h.1 h0)]
    refine ⟨0, fun k _ => ?_⟩
    show fluxionref04_IsNumber.f k s = _
    unfold fluxionref04_IsNumber.f
    rw [toList_eq, if_pos h0]
  · obtain ⟨K1, e1⟩ := ev_rnumber s hs 0 (Nat.zero_le _)
    dsimp only at e1
    rw [List.drop_zero] at e1
    refine ⟨K1, fun k hk => ?_⟩
    show fluxionref04_IsNumber.f k s = _
    unfold fluxionref04_IsNumber.f
    rw [toList_eq, if_neg h0]
    refine bind_of (e1 k hk) ?_
    congr 1
    rw [Bool.eq_iff_iff, beq_iff_eq, decide_eq_true_eq, len_eq]
    constructor
    · intro h; exact ⟨h0, by omega⟩
    · rintro ⟨_, h⟩; omega
end Go.Proofs.YteobbnehdlcphaaDoor.P

