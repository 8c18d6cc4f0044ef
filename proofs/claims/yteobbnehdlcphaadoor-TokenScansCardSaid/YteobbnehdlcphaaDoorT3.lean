/- The program's next and Scan come to the plain tokens. -/
import Derived.Test.YteobbnehdlcphaaDoorP3
import Derived.Test.YteobbnehdlcphaaDoorP4
import Derived.Test.YteobbnehdlcphaaDoorT2
namespace Go.Proofs.YteobbnehdlcphaaDoor.P
open Go.RowKit Go.Proofs.YteobbnehdlcphaaDoorW.PrintWords Go.Proofs.YteobbnehdlcphaaDoorW.PrintLast Go.Proofs.YteobbnehdlcphaaDoorW.PrintMore
open Go.Proofs.YteobbnehdlcphaaDoor
attribute [local irreducible] bt
def toB (l : Tok.Bs) : ByteArray := ⟨l.toArray⟩
theorem toB_list (l : Tok.Bs) : (toB l).data.toList = l := rfl
theorem toB_size (l : Tok.Bs) : (toB l).size = l.length := by rw [← len_eq, toB_list]
theorem toB_of (s : ByteArray) : toB s.data.toList = s := rfl
theorem toB_inj {s t : ByteArray} (h : s.data.toList = t.data.toList) : s = t := by rw [← toB_of s, ← toB_of t, h]
theorem toB_upto (s : ByteArray) (n : Nat) : s.extract 0 n = toB (s.data.toList.take n) := toB_inj (by rw [ext_upto, toB_list])
theorem toB_from (s : ByteArray) (n : Nat) : s.extract n s.size = toB (s.data.toList.drop n) := toB_inj (by rw [ext_from, toB_list])
theorem hasPrefix_list : ∀ (a b : Tok.Bs), (a.take b.length == b) = b.isPrefixOf a
  | a, [] => by simp
  | [], c :: b => by simp
  | d :: a, c :: b => by
    show ((d == c) && (a.take b.length == b)) = ((c == d) && b.isPrefixOf a)
    have h : (d == c) = (c == d) := by
      rw [Bool.eq_iff_iff, beq_iff_eq, beq_iff_eq]
      exact eq_comm
    rw [h, hasPrefix_list a b]
theorem prefix_false : ∀ (a b : Tok.Bs), a.length < b.length → b.isPrefixOf a = false
  | [], [], h => by simp at h
  | [], c :: b, _ => rfl
  | d :: a, [], h => by simp at h
  | d :: a, c :: b, h => by
    simp only [List.isPrefixOf, prefix_false a b (by simpa using h), Bool.and_false]
theorem hasPrefix_f (a b : ByteArray) : strings_HasPrefix.f a b = some (b.data.toList.isPrefixOf a.data.toList) := by
  unfold strings_HasPrefix.f stringslite_HasPrefix.f
  by_cases h : (a.size : Int) ≥ (b.size : Int)
  · rw [if_pos h, if_pos (by omega), if_pos h]
    rw [Int.toNat_natCast, toList_eq, toList_eq, ext_upto, ← len_eq b, hasPrefix_list]
    rfl
  · rw [if_neg h, prefix_false _ _ (by rw [len_eq, len_eq]; omega)]
    rfl
/-! a list of texts, searched -/
theorem ev_index (l : List ByteArray) (x : ByteArray) (hl : l.length ≤ 1000) : ∀ (d i : Nat), l.length - i = d → i ≤ l.length →
    Ev (fun k => (slices_Index_string_string.l0 k l x (l.length : Int) (i : Int)).bind fun t => some (decide (t ≥ 0))) ((l.drop i).any fun t => x.data.toList == t.data.toList) := by
  intro d
  induction d with
  | zero =>
    intro i h1 h2
    rw [List.drop_of_length_le (by omega)]
    refine ⟨1, fun k hk => ?_⟩
    obtain ⟨m, rfl⟩ : ∃ m, k = m + 1 := ⟨k - 1, by omega⟩
    simp only [slices_Index_string_string.l0]
    rw [if_neg (by omega)]
    rfl
  | succ d ih =>
    intro i h1 h2
    have hi : i < l.length := by omega
    rw [List.drop_eq_getElem_cons hi, List.any_cons]
    have hrd : rdOf ByteArray.empty l (i : Int) = l[i] := by
      unfold rdOf
      rw [Int.toNat_natCast, List.getD_eq_getElem?_getD, List.getElem?_eq_getElem hi]
      rfl
    obtain ⟨K, e⟩ := ih (i + 1) (by omega) (by omega)
    dsimp only at e
    have w1 : wrap64 ((i : Int) + 1) = ((i + 1 : Nat) : Int) := by rw [w64 (by omega) (by omega)]; rfl
    refine ⟨K + 1, fun k hk => ?_⟩
    obtain ⟨m, rfl⟩ : ∃ m, k = m + 1 := ⟨k - 1, by omega⟩
    simp only [slices_Index_string_string.l0]
    rw [if_pos (by omega), if_pos (by omega), if_pos (by omega), hrd, toList_eq, toList_eq]
    by_cases hx : x.data.toList = l[i].data.toList
    · rw [if_pos hx, show (x.data.toList == l[i].data.toList) = true from beq_iff_eq.2 hx, Bool.true_or]
      exact congrArg some (decide_eq_true (by omega))
    · rw [if_neg hx, show (x.data.toList == l[i].data.toList) = false from beq_eq_false_iff_ne.2 hx, Bool.false_or, w1]
      exact e m (by omega)
theorem words_eq : wordsL.map (fun t => t.data.toList) = Tok.words := rfl
theorem signs_eq : signsL.map (fun t => t.data.toList) = Tok.signs := rfl
theorem any_words (x : Tok.Bs) : (wordsL.any fun t => x == t.data.toList) = Tok.isWord x := by
  unfold Tok.isWord
  rw [← words_eq, List.contains_eq_any_beq, List.any_map]
  rfl
theorem ev_contains (x : ByteArray) : Ev (fun k => slices_Contains_string_string.f k wordsL x) (Tok.isWord x.data.toList) := by
  have := ev_index wordsL x (by decide) wordsL.length 0 rfl (Nat.zero_le _)
  rw [List.drop_zero, any_words] at this
  exact this
theorem ev_sign (s : ByteArray) : ∀ (d i : Nat), signsL.length - i = d → i ≤ signsL.length →
    Ev (fun k => token_next.l0 k s signsL (signsL.length : Int) (i : Int)) (match (signsL.drop i).find? (fun t => t.data.toList.isPrefixOf s.data.toList) with | some t => (4, t, 0) | none => (0, (⟨#[]⟩ : ByteArray), 0)) := by
  have hl : signsL.length ≤ 1000 := by decide
  generalize signsL = l at *
  intro d
  induction d with
  | zero =>
    intro i h1 h2
    rw [List.drop_of_length_le (by omega)]
    refine ⟨1, fun k hk => ?_⟩
    obtain ⟨m, rfl⟩ : ∃ m, k = m + 1 := ⟨k - 1, by omega⟩
    simp only [token_next.l0]
    rw [if_neg (by omega)]
    rfl
  | succ d ih =>
    intro i h1 h2
    have hi : i < l.length := by omega
    rw [List.drop_eq_getElem_cons hi, List.find?_cons]
    have hrd : rdOf ByteArray.empty l (i : Int) = l[i] := by
      unfold rdOf
      rw [Int.toNat_natCast, List.getD_eq_getElem?_getD, List.getElem?_eq_getElem hi]
      rfl
    obtain ⟨K, e⟩ := ih (i + 1) (by omega) (by omega)
    dsimp only at e
    have w1 : wrap64 ((i : Int) + 1) = ((i + 1 : Nat) : Int) := by rw [w64 (by omega) (by omega)]; rfl
    refine ⟨K + 1, fun k hk => ?_⟩
    obtain ⟨m, rfl⟩ : ∃ m, k = m + 1 := ⟨k - 1, by omega⟩
    simp only [token_next.l0]
    rw [if_pos (by omega), if_pos (by omega), if_pos (by omega), hrd]
    refine bind_of (hasPrefix_f s l[i]) ?_
    cases hp : l[i].data.toList.isPrefixOf s.data.toList
    · rw [if_neg (by decide), w1]; exact e m (by omega)
    · rw [if_pos rfl]
theorem signAt_eq (x : Tok.Bs) : (match signsL.find? (fun t => t.data.toList.isPrefixOf x) with | some t => ((4 : Int), t, (0 : Int)) | none => (0, (⟨#[]⟩ : ByteArray), 0)) = (match Tok.signAt x with | some t => ((4 : Int), toB t, (0 : Int)) | none => (0, toB [], 0)) := by
  unfold Tok.signAt
  rw [← signs_eq, List.find?_map]
  cases h : signsL.find? (fun t => t.data.toList.isPrefixOf x) with
  | none =>
    have : List.find? ((fun s => List.isPrefixOf s x) ∘ fun t : ByteArray => t.data.toList) signsL = none := h
    rw [this]
    rfl
  | some t =>
    have : List.find? ((fun s => List.isPrefixOf s x) ∘ fun t : ByteArray => t.data.toList) signsL = some t := h
    rw [this]
    rfl
theorem ev_next (s : ByteArray) (hs : Sm s) (h0 : s.data.toList ≠ []) : Ev (fun k => token_next.f k s) ((Tok.next s.data.toList).1, toB (Tok.next s.data.toList).2, 0) := by
  have hs' : s.size ≤ 4611686018427387904 := hs
  obtain ⟨c, r, hcr⟩ : ∃ c r, s.data.toList = c :: r := by
    cases h : s.data.toList with
    | nil => exact absurd h h0
    | cons c r => exact ⟨c, r, rfl⟩
  obtain ⟨hb, hpos⟩ := bt_of (s := s) (i := 0) (by rw [List.drop_zero]; exact hcr)
  have hb' : bt s 0 = (c.toNat : Int) := hb
  unfold Tok.next
  cases hl : Tok.isLetter c with
  | true =>
    rw [if_pos (by rw [hcr]; exact hl)]
    obtain ⟨K1, e1⟩ := ev_win s hs
    dsimp only at e1
    have hw := Tok.wl_le Tok.isIn s.data.toList
    rw [len_eq] at hw
    have htk := Tok.take_wl Tok.isIn s.data.toList
    generalize Tok.wl Tok.isIn s.data.toList = n at *
    obtain ⟨K2, e2⟩ := ev_contains (s.extract 0 n)
    dsimp only at e2
    rw [ext_upto, htk] at e2
    refine ⟨K1 + K2, fun k hk => ?_⟩
    show token_next.f k s = _
    unfold token_next.f
    rw [if_pos (by omega), hb']
    refine bind_of (letter_f c) ?_
    rw [hl, if_pos rfl]
    refine bind_of (e1 k (by omega)) ?_
    rw [if_pos (by omega), if_pos (by omega), Int.toNat_natCast]
    refine bind_of (e2 k (by omega)) ?_
    rw [toB_upto, htk]
    cases Tok.isWord (List.takeWhile Tok.isIn s.data.toList) <;> rfl
  | false =>
    rw [if_neg (by rw [hcr]; simp [Tok.hd, hl])]
    obtain ⟨K1, e1⟩ := ev_number s hs
    dsimp only at e1
    have hn := Tok.numN_le s.data.toList
    rw [len_eq] at hn
    generalize Tok.numN s.data.toList = n at *
    by_cases h1 : n > 0
    · rw [if_pos h1]
      refine ⟨K1, fun k hk => ?_⟩
      show token_next.f k s = _
      unfold token_next.f
      rw [if_pos (by omega), hb']
      refine bind_of (letter_f c) ?_
      rw [hl, if_neg (by decide)]
      refine bind_of (e1 k (by omega)) ?_
      rw [if_pos (by omega), if_pos (by omega), if_pos (by omega), Int.toNat_natCast, toB_upto]
    · rw [if_neg h1]
      obtain ⟨K2, e2⟩ := ev_sign s signsL.length 0 rfl (Nat.zero_le _)
      dsimp only at e2
      rw [List.drop_zero, signAt_eq] at e2
      refine ⟨K1 + K2, fun k hk => ?_⟩
      show token_next.f k s = _
      unfold token_next.f
      rw [if_pos (by omega), hb']
      refine bind_of (letter_f c) ?_
      rw [hl, if_neg (by decide)]
      refine bind_of (e1 k (by omega)) ?_
      rw [if_neg (by omega)]
      have e3 := e2 k (by omega)
      rw [show (((0 : Nat) : Int)) = (0 : Int) from rfl] at e3
      rw [e3]
      cases Tok.signAt s.data.toList <;> rfl
/-! Scan -/
def toS (t : Tok.T) : S44 := ⟨t.k, toB t.t, (t.a : Int)⟩
theorem out_len {α : Type} (l : List α) (n : Nat) (h : l.length ≤ n) (hn : n ≤ 100000) : l.length < 4398046511104 := by omega
end Go.Proofs.YteobbnehdlcphaaDoor.P
