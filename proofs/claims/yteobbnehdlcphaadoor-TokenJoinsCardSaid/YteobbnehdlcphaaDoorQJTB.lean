import Derived.Lib.IndexBytes
import Derived.Lib.PathFns
import Derived.Test.YteobbnehdlcphaaDoorQJP3
import Derived.Test.YteobbnehdlcphaaDoorQJP4
import Derived.Test.YteobbnehdlcphaaDoorQJTA
import Derived.Test.YteobbnehdlcphaaDoorQJG
namespace Go.Proofs.YteobbnehdlcphaaDoor.P
open Go.RowKit Go.Proofs.YteobbnehdlcphaaDoorW.PrintWords Go.Proofs.YteobbnehdlcphaaDoorW.PrintLast Go.Proofs.YteobbnehdlcphaaDoorW.PrintMore
open Go.Proofs.YteobbnehdlcphaaDoor
abbrev Sm (s : ByteArray) : Prop := s.size ≤ 4611686018427387904
theorem len_eq (s : ByteArray) : s.data.toList.length = s.size := data_length s
theorem w64 {n : Int} (h0 : -9223372036854775808 ≤ n) (h1 : n < 9223372036854775808) : wrap64 n = n := by unfold wrap64; omega
theorem ext_from (s : ByteArray) (a : Nat) : (s.extract a s.size).data.toList = s.data.toList.drop a := Lib.extract_to_end s a
theorem ext_upto (s : ByteArray) (a : Nat) : (s.extract 0 a).data.toList = s.data.toList.take a := by rw [Lib.extract_data, Nat.sub_zero, List.drop_zero]
theorem ext_mid (s : ByteArray) (a b : Nat) : (s.extract a b).data.toList = (s.data.toList.drop a).take (b - a) := Lib.extract_data s a b
theorem toList_eq (s : ByteArray) : s.toList = s.data.toList := Lib.toList_data s
theorem bt_of {s : ByteArray} {i : Nat} {c : UInt8} {r : Tok.Bs} (h : s.data.toList.drop i = c :: r) : bt s (i : Int) = (c.toNat : Int) ∧ i < s.size := by
  have h1 : i < s.data.toList.length := by
    rcases Nat.lt_or_ge i s.data.toList.length with h' | h'
    · exact h'
    · rw [List.drop_of_length_le h'] at h; cases h
  have h2 : i < s.size := by rw [← len_eq]; exact h1
  refine ⟨?_, h2⟩
  have h3 := List.drop_eq_getElem_cons h1
  rw [h] at h3
  injection h3 with h3 _
  unfold bt
  rw [Int.toNat_natCast, dif_pos h2, h3]
  rfl
theorem drop_nil_of {s : ByteArray} {i : Nat} (h : s.data.toList.drop i = []) (hi : i ≤ s.size) : i = s.size := by
  rw [List.drop_eq_nil_iff, len_eq] at h
  omega
attribute [local irreducible] bt
theorem bind_of {α β : Type} {a : Option α} {x : α} {f : α → Option β} {y : Option β} (h : a = some x) (h2 : f x = y) : a.bind f = y := by
  subst h
  exact h2
theorem letter_f (c : UInt8) : token_letter.f (c.toNat : Int) = some (Tok.isLetter c) := by
  unfold token_letter.f Tok.isLetter
  by_cases h : (c.toNat : Int) ≥ 97
  · rw [if_pos h, decide_eq_true (show 97 ≤ c.toNat by omega), Bool.true_and]
    congr 1
    exact decide_eq_decide.2 (by omega)
  · rw [if_neg h, decide_eq_false (show ¬ 97 ≤ c.toNat by omega), Bool.false_and]
theorem digit_f (c : UInt8) : token_digit.f (c.toNat : Int) = some (Tok.isDigit c) := by
  unfold token_digit.f Tok.isDigit
  by_cases h : (c.toNat : Int) ≥ 48
  · rw [if_pos h, decide_eq_true (show 48 ≤ c.toNat by omega), Bool.true_and]
    congr 1
    exact decide_eq_decide.2 (by omega)
  · rw [if_neg h, decide_eq_false (show ¬ 48 ≤ c.toNat by omega), Bool.false_and]
theorem byte_eq (c : UInt8) (n : Nat) (hn : n < 256) : ((c.toNat : Int) == (n : Int)) = (c == n.toUInt8) := by
  rw [Bool.eq_iff_iff, beq_iff_eq, beq_iff_eq]
  constructor
  · intro h
    have h1 : c.toNat = n := by omega
    rw [← h1]; simp
  · rintro rfl
    simp [Nat.mod_eq_of_lt hn]
theorem byte_ne (c : UInt8) (n : Nat) (hn : n < 256) : ((c.toNat : Int) = (n : Int)) ↔ c = n.toUInt8 := by
  have := byte_eq c n hn
  rw [Bool.eq_iff_iff, beq_iff_eq, beq_iff_eq] at this
  exact this
theorem in_f (c : UInt8) : token_in.f (c.toNat : Int) = some (Tok.isIn c) := by
  unfold token_in.f Tok.isIn
  rw [letter_f]
  simp only [Option.bind_some]
  cases Tok.isLetter c
  · rw [if_neg (by decide), digit_f]
    simp only [Option.bind_some, Bool.false_or]
    cases Tok.isDigit c
    · rw [if_neg (by decide), Bool.false_or]; exact congrArg some (byte_eq c 95 (by decide))
    · rw [if_pos rfl, Bool.true_or]
  · rw [if_pos rfl, Bool.true_or]
theorem ev_while {g : Nat → Int → Option Int} {q : Int → Option Bool} {p : UInt8 → Bool} (s : ByteArray) (hs : Sm s) (hq : ∀ c : UInt8, q (c.toNat : Int) = some (p c))
    (hg : ∀ k i, g (k + 1) i = if i < (s.size : Int) then (if 0 ≤ i then ((q (bt s i)).bind fun t => (if t = true then (g k (wrap64 (i + 1))) else (some i))) else (none)) else (some i)) :
    ∀ (d i : Nat), s.size - i = d → i ≤ s.size → Ev (fun k => g k (i : Int)) ((i + Tok.wl p (s.data.toList.drop i) : Nat) : Int) := by
  intro d
  induction d with
  | zero =>
    intro i h1 h2
    refine Ev.step (f := fun _ => some (i : Int)) (fun k => by rw [hg, if_neg (by omega)]) ?_
    rw [List.drop_of_length_le (by rw [len_eq]; omega), Tok.wl_nil]
    exact Ev.now _
  | succ d ih =>
    intro i h1 h2
    cases hd : s.data.toList.drop i with
    | nil => have := drop_nil_of hd h2; omega
    | cons c r =>
      obtain ⟨hb, hi⟩ := bt_of hd
      have hr : s.data.toList.drop (i + 1) = r := by rw [← List.drop_drop, hd]; rfl
      cases hp : p c with
      | false =>
        refine Ev.step (f := fun _ => some (i : Int)) (fun k => by rw [hg, if_pos (by omega), if_pos (by omega), hb, hq, hp]; rfl) ?_
        rw [Tok.wl_neg r hp]
        exact Ev.now _
      | true =>
        have h3 := ih (i + 1) (by omega) (by omega)
        rw [hr] at h3
        refine Ev.step (f := fun k => g k ((i + 1 : Nat) : Int)) (fun k => by rw [hg, if_pos (by omega), if_pos (by omega), hb, hq, hp]; simp only [Option.bind_some, if_true]; rw [w64 (by omega) (by omega)]; rfl) ?_
        rw [Tok.wl_pos r hp, show i + (Tok.wl p r + 1) = i + 1 + Tok.wl p r by omega]
        exact h3
theorem ev_wdigit (s : ByteArray) (hs : Sm s) : Ev (fun k => token_while_at_token_digit.f k s) ((Tok.wl Tok.isDigit s.data.toList : Nat) : Int) := by
  have := ev_while (g := fun k i => token_while_at_token_digit.l0 k s i) s hs digit_f (fun k i => rfl) s.size 0 rfl (Nat.zero_le _)
  rw [List.drop_zero, Nat.zero_add] at this
  exact this
theorem ev_win (s : ByteArray) (hs : Sm s) : Ev (fun k => token_while_at_token_in.f k s) ((Tok.wl Tok.isIn s.data.toList : Nat) : Int) := by
  have := ev_while (g := fun k i => token_while_at_token_in.l0 k s i) s hs in_f (fun k i => rfl) s.size 0 rfl (Nat.zero_le _)
  rw [List.drop_zero, Nat.zero_add] at this
  exact this
theorem ext_size (s : ByteArray) (a : Nat) : (s.extract a s.size).size = s.size - a := by
  rw [← len_eq, ext_from, List.length_drop, len_eq]
theorem ext_sm {s : ByteArray} (hs : Sm s) (a : Nat) : Sm (s.extract a s.size) := by
  have := ext_size s a
  show _ ≤ _
  rw [this]
  have : s.size ≤ 4611686018427387904 := hs
  omega
theorem ev_number (s : ByteArray) (hs : Sm s) : Ev (fun k => token_number.f k s) ((Tok.numN s.data.toList : Nat) : Int) := by
  have hs' : s.size ≤ 4611686018427387904 := hs
  obtain ⟨K1, e1⟩ := ev_wdigit s hs
  dsimp only at e1
  have hw := Tok.wl_le Tok.isDigit s.data.toList
  rw [len_eq] at hw
  unfold Tok.numN
  generalize hn : Tok.wl Tok.isDigit s.data.toList = n at *
  have stop : ∀ m, token_number.j0 (m + 1) s (n : Int) false = some (n : Int) := fun m => by simp only [token_number.j0]; rw [if_neg (by decide)]
  have plain : ∀ (K : Nat), (∀ m, K ≤ m → token_number.f m s = token_number.j0 m s (n : Int) false) → Ev (fun k => token_number.f k s) (n : Int) := by
    intro K h
    refine ⟨K + 1, fun k hk => ?_⟩
    obtain ⟨m, rfl⟩ : ∃ m, k = m + 1 := ⟨k - 1, by omega⟩
    show token_number.f (m + 1) s = _
    rw [h (m + 1) (by omega), stop]
  by_cases h0 : n > 0
  · cases hd : s.data.toList.drop n with
    | nil =>
      have hne : s.data.toList[n]? = none := by
        rw [List.getElem?_eq_none_iff]; rw [List.drop_eq_nil_iff] at hd; exact hd
      rw [if_neg (by rw [hne]; simp)]
      have := drop_nil_of hd hw
      refine plain K1 (fun m hm => ?_)
      unfold token_number.f
      refine bind_of (e1 m hm) ?_
      rw [if_pos (by omega), if_neg (by omega)]
    | cons c r =>
      obtain ⟨hb, hnl⟩ := bt_of hd
      have hat : s.data.toList[n]? = some c := by
        have := List.getElem?_drop (xs := s.data.toList) (i := n) (j := 0)
        rw [hd] at this
        simpa using this.symm
      have hr : s.data.toList.drop (n + 1) = r := by rw [← List.drop_drop, hd]; rfl
      by_cases h46 : c = 46
      · have hbt : bt s (n : Int) = 46 := by rw [hb]; exact (byte_ne c 46 (by decide)).2 h46
        subst h46
        obtain ⟨K2, e2⟩ := ev_wdigit (s.extract (n + 1) s.size) (ext_sm hs (n + 1))
        dsimp only at e2
        rw [ext_from, hr] at e2
        rw [hr, hat]
        have hw2 := Tok.wl_le Tok.isDigit r
        have hlr : r.length = s.size - (n + 1) := by rw [← hr, List.length_drop, len_eq]
        generalize Tok.wl Tok.isDigit r = b at *
        have w1 : wrap64 ((n : Int) + 1) = ((n + 1 : Nat) : Int) := by rw [w64 (by omega) (by omega)]; rfl
        have w2 : wrap64 ((n : Int) + wrap64 (1 + (b : Int))) = ((n + 1 + b : Nat) : Int) := by rw [w64 (n := 1 + (b : Int)) (by omega) (by omega), w64 (by omega) (by omega)]; omega
        refine ⟨K1 + K2 + 1, fun k hk => ?_⟩
        obtain ⟨m, rfl⟩ : ∃ m, k = m + 1 := ⟨k - 1, by omega⟩
        show token_number.f (m + 1) s = _
        unfold token_number.f
        refine bind_of (e1 (m + 1) (by omega)) ?_
        rw [if_pos (by omega), if_pos (by omega), if_pos (by omega), hbt]
        simp only [token_number.j0]
        rw [if_pos (show ((46 : Int) == 46) = true from rfl), w1, if_pos (by omega), if_pos (by omega), Int.toNat_natCast]
        refine bind_of (e2 m (by omega)) ?_
        by_cases hb0 : b > 0
        · rw [if_pos (by omega), if_pos ⟨h0, by trivial, hb0⟩, w2]
        · rw [if_neg (by omega), if_neg (by omega)]
      · rw [if_neg (by rw [hat]; simp [h46])]
        have hne : (bt s (n : Int) == 46) = false := by rw [hb]; exact beq_eq_false_iff_ne.2 (fun h => h46 ((byte_ne c 46 (by decide)).1 h))
        refine plain K1 (fun m hm => ?_)
        unfold token_number.f
        refine bind_of (e1 m hm) ?_
        rw [if_pos (by omega), if_pos (by omega), if_pos (by omega), hne]
  · rw [if_neg (by omega)]
    refine plain K1 (fun m hm => ?_)
    unfold token_number.f
    refine bind_of (e1 m hm) ?_
    rw [if_neg (by omega)]
end Go.Proofs.YteobbnehdlcphaaDoor.P
namespace Go.Proofs.YteobbnehdlcphaaDoor.P
open Go.RowKit Go.Proofs.YteobbnehdlcphaaDoorW.PrintWords Go.Proofs.YteobbnehdlcphaaDoorW.PrintLast Go.Proofs.YteobbnehdlcphaaDoorW.PrintMore
open Go.Proofs.YteobbnehdlcphaaDoor
attribute [local irreducible] bt
def toB (l : Tok.Bs) : ByteArray := ⟨l.toArray⟩
theorem toB_list (l : Tok.Bs) : (toB l).data.toList = l := rfl
theorem toB_size (l : Tok.Bs) : (toB l).size = l.length := by rw [← len_eq, toB_list]
theorem toB_of (s : ByteArray) : toB s.data.toList = s := rfl
theorem toB_inj {s t : ByteArray} (h : s.data.toList = t.data.toList) : s = t := by rw [← toB_of s, ← toB_of t, h]
theorem toB_upto (s : ByteArray) (n : Nat) : s.extract 0 n = toB (s.data.toList.take n) := toB_inj (by rw [ext_upto, toB_list])
theorem toB_from (s : ByteArray) (n : Nat) : s.extract n s.size = toB (s.data.toList.drop n) := toB_inj (by rw [ext_from, toB_list])
theorem hasPrefix_list : ∀ (a b : Tok.Bs), (a.take b.length == b) = b.isPrefixOf a
  | a, [] => by simp
  | [], c :: b => by simp
  | d :: a, c :: b => by
    show ((d == c) && (a.take b.length == b)) = ((c == d) && b.isPrefixOf a)
    have h : (d == c) = (c == d) := by
      rw [Bool.eq_iff_iff, beq_iff_eq, beq_iff_eq]
      exact eq_comm
    rw [h, hasPrefix_list a b]
theorem prefix_false : ∀ (a b : Tok.Bs), a.length < b.length → b.isPrefixOf a = false
  | [], [], h => by simp at h
  | [], c :: b, _ => rfl
  | d :: a, [], h => by simp at h
  | d :: a, c :: b, h => by
    simp only [List.isPrefixOf, prefix_false a b (by simpa using h), Bool.and_false]
theorem hasPrefix_f (a b : ByteArray) : strings_HasPrefix.f a b = some (b.data.toList.isPrefixOf a.data.toList) := by
  unfold strings_HasPrefix.f stringslite_HasPrefix.f
  by_cases h : (a.size : Int) ≥ (b.size : Int)
  · rw [if_pos h, if_pos (by omega), if_pos h]
    rw [Int.toNat_natCast, toList_eq, toList_eq, ext_upto, ← len_eq b, hasPrefix_list]
    rfl
  · rw [if_neg h, prefix_false _ _ (by rw [len_eq, len_eq]; omega)]
    rfl
theorem ev_index (l : List ByteArray) (x : ByteArray) (hl : l.length ≤ 1000) : ∀ (d i : Nat), l.length - i = d → i ≤ l.length →
    Ev (fun k => (slices_Index_string_string.l0 k l x (l.length : Int) (i : Int)).bind fun t => some (decide (t ≥ 0))) ((l.drop i).any fun t => x.data.toList == t.data.toList) := by
  intro d
  induction d with
  | zero =>
    intro i h1 h2
    rw [List.drop_of_length_le (by omega)]
    refine ⟨1, fun k hk => ?_⟩
    obtain ⟨m, rfl⟩ : ∃ m, k = m + 1 := ⟨k - 1, by omega⟩
    simp only [slices_Index_string_string.l0]
    rw [if_neg (by omega)]
    rfl
  | succ d ih =>
    intro i h1 h2
    have hi : i < l.length := by omega
    rw [List.drop_eq_getElem_cons hi, List.any_cons]
    have hrd : rdOf ByteArray.empty l (i : Int) = l[i] := by
      unfold rdOf
      rw [Int.toNat_natCast, List.getD_eq_getElem?_getD, List.getElem?_eq_getElem hi]
      rfl
    obtain ⟨K, e⟩ := ih (i + 1) (by omega) (by omega)
    dsimp only at e
    have w1 : wrap64 ((i : Int) + 1) = ((i + 1 : Nat) : Int) := by rw [w64 (by omega) (by omega)]; rfl
    refine ⟨K + 1, fun k hk => ?_⟩
    obtain ⟨m, rfl⟩ : ∃ m, k = m + 1 := ⟨k - 1, by omega⟩
    simp only [slices_Index_string_string.l0]
    rw [if_pos (by omega), if_pos (by omega), if_pos (by omega), hrd, toList_eq, toList_eq]
    by_cases hx : x.data.toList = l[i].data.toList
    · rw [if_pos hx, show (x.data.toList == l[i].data.toList) = true from beq_iff_eq.2 hx, Bool.true_or]
      exact congrArg some (decide_eq_true (by omega))
    · rw [if_neg hx, show (x.data.toList == l[i].data.toList) = false from beq_eq_false_iff_ne.2 hx, Bool.false_or, w1]
      exact e m (by omega)
theorem words_eq : wordsL.map (fun t => t.data.toList) = Tok.words := rfl
theorem signs_eq : signsL.map (fun t => t.data.toList) = Tok.signs := rfl
theorem any_words (x : Tok.Bs) : (wordsL.any fun t => x == t.data.toList) = Tok.isWord x := by
  unfold Tok.isWord
  rw [← words_eq, List.contains_eq_any_beq, List.any_map]
  rfl
theorem ev_contains (x : ByteArray) : Ev (fun k => slices_Contains_string_string.f k wordsL x) (Tok.isWord x.data.toList) := by
  have := ev_index wordsL x (by decide) wordsL.length 0 rfl (Nat.zero_le _)
  rw [List.drop_zero, any_words] at this
  exact this
theorem ev_sign (s : ByteArray) : ∀ (d i : Nat), signsL.length - i = d → i ≤ signsL.length →
    Ev (fun k => token_next.l0 k s signsL (signsL.length : Int) (i : Int)) (match (signsL.drop i).find? (fun t => t.data.toList.isPrefixOf s.data.toList) with | some t => (4, t, 0) | none => (0, (⟨#[]⟩ : ByteArray), 0)) := by
  have hl : signsL.length ≤ 1000 := by decide
  generalize signsL = l at *
  intro d
  induction d with
  | zero =>
    intro i h1 h2
    rw [List.drop_of_length_le (by omega)]
    refine ⟨1, fun k hk => ?_⟩
    obtain ⟨m, rfl⟩ : ∃ m, k = m + 1 := ⟨k - 1, by omega⟩
    simp only [token_next.l0]
    rw [if_neg (by omega)]
    rfl
  | succ d ih =>
    intro i h1 h2
    have hi : i < l.length := by omega
    rw [List.drop_eq_getElem_cons hi, List.find?_cons]
    have hrd : rdOf ByteArray.empty l (i : Int) = l[i] := by
      unfold rdOf
      rw [Int.toNat_natCast, List.getD_eq_getElem?_getD, List.getElem?_eq_getElem hi]
      rfl
    obtain ⟨K, e⟩ := ih (i + 1) (by omega) (by omega)
    dsimp only at e
    have w1 : wrap64 ((i : Int) + 1) = ((i + 1 : Nat) : Int) := by rw [w64 (by omega) (by omega)]; rfl
    refine ⟨K + 1, fun k hk => ?_⟩
    obtain ⟨m, rfl⟩ : ∃ m, k = m + 1 := ⟨k - 1, by omega⟩
    simp only [token_next.l0]
    rw [if_pos (by omega), if_pos (by omega), if_pos (by omega), hrd]
    refine bind_of (hasPrefix_f s l[i]) ?_
    cases hp : l[i].data.toList.isPrefixOf s.data.toList
    · rw [if_neg (by decide), w1]; exact e m (by omega)
    · rw [if_pos rfl]
theorem signAt_eq (x : Tok.Bs) : (match signsL.find? (fun t => t.data.toList.isPrefixOf x) with | some t => ((4 : Int), t, (0 : Int)) | none => (0, (⟨#[]⟩ : ByteArray), 0)) = (match Tok.signAt x with | some t => ((4 : Int), toB t, (0 : Int)) | none => (0, toB [], 0)) := by
  unfold Tok.signAt
  rw [← signs_eq, List.find?_map]
  cases h : signsL.find? (fun t => t.data.toList.isPrefixOf x) with
  | none =>
    have : List.find? ((fun s => List.isPrefixOf s x) ∘ fun t : ByteArray => t.data.toList) signsL = none := h
    rw [this]
    rfl
  | some t =>
    have : List.find? ((fun s => List.isPrefixOf s x) ∘ fun t : ByteArray => t.data.toList) signsL = some t := h
    rw [this]
    rfl
theorem ev_next (s : ByteArray) (hs : Sm s) (h0 : s.data.toList ≠ []) : Ev (fun k => token_next.f k s) ((Tok.next s.data.toList).1, toB (Tok.next s.data.toList).2, 0) := by
  have hs' : s.size ≤ 4611686018427387904 := hs
  obtain ⟨c, r, hcr⟩ : ∃ c r, s.data.toList = c :: r := by
    cases h : s.data.toList with
    | nil => exact absurd h h0
    | cons c r => exact ⟨c, r, rfl⟩
  obtain ⟨hb, hpos⟩ := bt_of (s := s) (i := 0) (by rw [List.drop_zero]; exact hcr)
  have hb' : bt s 0 = (c.toNat : Int) := hb
  unfold Tok.next
  cases hl : Tok.isLetter c with
  | true =>
    rw [if_pos (by rw [hcr]; exact hl)]
    obtain ⟨K1, e1⟩ := ev_win s hs
    dsimp only at e1
    have hw := Tok.wl_le Tok.isIn s.data.toList
    rw [len_eq] at hw
    have htk := Tok.take_wl Tok.isIn s.data.toList
    generalize Tok.wl Tok.isIn s.data.toList = n at *
    obtain ⟨K2, e2⟩ := ev_contains (s.extract 0 n)
    dsimp only at e2
    rw [ext_upto, htk] at e2
    refine ⟨K1 + K2, fun k hk => ?_⟩
    show token_next.f k s = _
    unfold token_next.f
    rw [if_pos (by omega), hb']
    refine bind_of (letter_f c) ?_
    rw [hl, if_pos rfl]
    refine bind_of (e1 k (by omega)) ?_
    rw [if_pos (by omega), if_pos (by omega), Int.toNat_natCast]
    refine bind_of (e2 k (by omega)) ?_
    rw [toB_upto, htk]
    cases Tok.isWord (List.takeWhile Tok.isIn s.data.toList) <;> rfl
  | false =>
    rw [if_neg (by rw [hcr]; simp [Tok.hd, hl])]
    obtain ⟨K1, e1⟩ := ev_number s hs
    dsimp only at e1
    have hn := Tok.numN_le s.data.toList
    rw [len_eq] at hn
    generalize Tok.numN s.data.toList = n at *
    by_cases h1 : n > 0
    · rw [if_pos h1]
      refine ⟨K1, fun k hk => ?_⟩
      show token_next.f k s = _
      unfold token_next.f
      rw [if_pos (by omega), hb']
      refine bind_of (letter_f c) ?_
      rw [hl, if_neg (by decide)]
      refine bind_of (e1 k (by omega)) ?_
      rw [if_pos (by omega), if_pos (by omega), if_pos (by omega), Int.toNat_natCast, toB_upto]
    · rw [if_neg h1]
      obtain ⟨K2, e2⟩ := ev_sign s signsL.length 0 rfl (Nat.zero_le _)
      dsimp only at e2
      rw [List.drop_zero, signAt_eq] at e2
      refine ⟨K1 + K2, fun k hk => ?_⟩
      show token_next.f k s = _
      unfold token_next.f
      rw [if_pos (by omega), hb']
      refine bind_of (letter_f c) ?_
      rw [hl, if_neg (by decide)]
      refine bind_of (e1 k (by omega)) ?_
      rw [if_neg (by omega)]
      have e3 := e2 k (by omega)
      rw [show (((0 : Nat) : Int)) = (0 : Int) from rfl] at e3
      rw [e3]
      cases Tok.signAt s.data.toList <;> rfl
end Go.Proofs.YteobbnehdlcphaaDoor.P
namespace Go.Proofs.YteobbnehdlcphaaDoor.P
open Go.RowKit Go.Proofs.YteobbnehdlcphaaDoorW.PrintWords Go.Proofs.YteobbnehdlcphaaDoorW.PrintLast Go.Proofs.YteobbnehdlcphaaDoorW.PrintMore
open Go.Proofs.YteobbnehdlcphaaDoor
attribute [local irreducible] bt
end Go.Proofs.YteobbnehdlcphaaDoor.P

