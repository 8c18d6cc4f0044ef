import Derived.Test.YteobbnehdlcphaaDoorQOP0
import Derived.Test.YteobbnehdlcphaaDoorQOP2
import Derived.Test.YteobbnehdlcphaaDoorQOP6
import Derived.Test.YteobbnehdlcphaaDoorQOP11
import Derived.Test.YteobbnehdlcphaaDoorQOP14
import Derived.Test.YteobbnehdlcphaaDoorQOG
import Derived.Test.YteobbnehdlcphaaDoorQOTE
namespace Go.Proofs.YteobbnehdlcphaaDoor.Tok
theorem word_next : ∀ w ∈ words, next w = (2, w) ∧ w ≠ [] := by
  have h : (words.all fun w => decide (next w = (2, w) ∧ w ≠ [])) = true := by decide
  intro w hw
  exact of_decide_eq_true (List.all_eq_true.1 h w hw)
def wholeT (k : Int) (l : Bs) : Bool := decide (l ≠ [] ∧ next l = (k, l))
theorem whole_word (l : Bs) : wholeT 2 l = isWord l := by
  rw [Bool.eq_iff_iff]
  unfold wholeT
  rw [decide_eq_true_eq]
  constructor
  · rintro ⟨hne, h⟩
    cases l with
    | nil => exact absurd rfl hne
    | cons c r =>
      cases hl : isLetter c with
      | true =>
        rw [next_letter hl] at h
        injection h with h1 h2
        rw [h2] at h1
        by_cases hw : isWord (c :: r) = true
        · exact hw
        · rw [if_neg hw] at h1; cases h1
      | false =>
        by_cases hn : numN (c :: r) > 0
        · rw [next_digits hl hn] at h; injection h with h1 _; cases h1
        · rw [next_else hl hn] at h
          cases hs : signAt (c :: r) with
          | none => rw [hs] at h; injection h with h1 _; cases h1
          | some s => rw [hs] at h; injection h with h1 _; cases h1
  · intro h
    have h1 : l ∈ words := List.contains_iff_mem.1 h
    exact ⟨(word_next l h1).2, (word_next l h1).1⟩
end Go.Proofs.YteobbnehdlcphaaDoor.Tok
namespace Go.Proofs.YteobbnehdlcphaaDoor.P
open Go.RowKit Go.Proofs.YteobbnehdlcphaaDoorW.PrintWords Go.Proofs.YteobbnehdlcphaaDoorW.PrintLast Go.Proofs.YteobbnehdlcphaaDoorW.PrintMore
open Go.Proofs.YteobbnehdlcphaaDoor
attribute [local irreducible] bt
theorem ev_whole (s : ByteArray) (hs : Sm s) (kd : Int) : Ev (fun k => token_whole.f k s kd) (Tok.wholeT kd s.data.toList) := by
  unfold Tok.wholeT
  by_cases h0 : s.data.toList = []
  · rw [decide_eq_false (fun h => h.1 h0)]
    refine ⟨0, fun k _ => ?_⟩
    show token_whole.f k s kd = _
    unfold token_whole.f
    rw [toList_eq, if_pos h0]
  · obtain ⟨K, e⟩ := ev_next s hs h0
    dsimp only at e
    generalize Tok.next s.data.toList = nx at *
    obtain ⟨nk, nt⟩ := nx
    dsimp only at e
    refine ⟨K, fun k hk => ?_⟩
    show token_whole.f k s kd = _
    unfold token_whole.f
    rw [toList_eq, if_neg h0]
    refine bind_of (e k hk) ?_
    dsimp only
    by_cases hk0 : nk = kd
    · rw [if_pos hk0, toB_toList]
      congr 1
      rw [Bool.eq_iff_iff, beq_iff_eq, decide_eq_true_eq]
      constructor
      · intro h; exact ⟨h0, by rw [hk0, h]⟩
      · rintro ⟨_, h⟩; injection h
    · rw [if_neg hk0, decide_eq_false (fun h => hk0 (congrArg Prod.fst h.2))]
theorem ev_IsName (s : ByteArray) (hs : Sm s) : Ev (fun k => token_IsName.f k s) (decide (s.size ≤ 24) && Tok.wholeT 1 s.data.toList) := by
  by_cases h : s.size ≤ 24
  · obtain ⟨K, e⟩ := ev_whole s hs 1
    refine ⟨K, fun k hk => ?_⟩
    show token_IsName.f k s = _
    unfold token_IsName.f
    rw [if_pos (by omega), decide_eq_true h, Bool.true_and]
    exact bind_of (e k hk) rfl
  · refine ⟨0, fun k _ => ?_⟩
    show token_IsName.f k s = _
    unfold token_IsName.f
    rw [if_neg (by omega), decide_eq_false h, Bool.false_and]
theorem ev_IsWord (s : ByteArray) (hs : Sm s) : Ev (fun k => token_IsWord.f k s) (Tok.isWord s.data.toList) := by
  obtain ⟨K, e⟩ := ev_whole s hs 2
  dsimp only at e
  rw [Tok.whole_word] at e
  exact ⟨K, fun k hk => bind_of (e k hk) rfl⟩
theorem ev_IsNumber (s : ByteArray) (hs : Sm s) : Ev (fun k => token_IsNumber.f k s) (Tok.wholeT 3 s.data.toList) := by
  obtain ⟨K, e⟩ := ev_whole s hs 3
  exact ⟨K, fun k hk => bind_of (e k hk) rfl⟩
end Go.Proofs.YteobbnehdlcphaaDoor.P

