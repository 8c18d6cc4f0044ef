import Derived.Lib.IndexBytes
import Derived.Lib.PathFns
import Derived.Test.YteobbnehdlcphaaDoorQDP3
import Derived.Test.YteobbnehdlcphaaDoorQDP4
import Derived.Test.YteobbnehdlcphaaDoorQDTA
import Derived.Test.YteobbnehdlcphaaDoorQDG
namespace Go.Proofs.YteobbnehdlcphaaDoor.P
open Go.RowKit Go.Proofs.YteobbnehdlcphaaDoorW.PrintWords Go.Proofs.YteobbnehdlcphaaDoorW.PrintLast Go.Proofs.YteobbnehdlcphaaDoorW.PrintMore
open Go.Proofs.YteobbnehdlcphaaDoor
abbrev Sm (s : ByteArray) : Prop := s.size ≤ 4611686018427387904
theorem len_eq (s : ByteArray) : s.data.toList.length = s.size := data_length s
theorem w64 {n : Int} (h0 : -9223372036854775808 ≤ n) (h1 : n < 9223372036854775808) : wrap64 n = n := by unfold wrap64; omega
theorem ext_from (s : ByteArray) (a : Nat) : (s.extract a s.size).data.toList = s.data.toList.drop a := Lib.extract_to_end s a
theorem ext_upto (s : ByteArray) (a : Nat) : (s.extract 0 a).data.toList = s.data.toList.take a := by rw [Lib.extract_data, Nat.sub_zero, List.drop_zero]
theorem toList_eq (s : ByteArray) : s.toList = s.data.toList := Lib.toList_data s
theorem bt_of {s : ByteArray} {i : Nat} {c : UInt8} {r : Tok.Bs} (h : s.data.toList.drop i = c :: r) : bt s (i : Int) = (c.toNat : Int) ∧ i < s.size := by
  have h1 : i < s.data.toList.length := by
    rcases Nat.lt_or_ge i s.data.toList.length with h' | h'
    · exact h'
    · rw [List.drop_of_length_le h'] at h; cases h
  have h2 : i < s.size := by rw [← len_eq]; exact h1
  refine ⟨?_, h2⟩
  have h3 := List.drop_eq_getElem_cons h1
  rw [h] at h3
  injection h3 with h3 _
  unfold bt
  rw [Int.toNat_natCast, dif_pos h2, h3]
  rfl
theorem drop_nil_of {s : ByteArray} {i : Nat} (h : s.data.toList.drop i = []) (hi : i ≤ s.size) : i = s.size := by
  rw [List.drop_eq_nil_iff, len_eq] at h
  omega
attribute [local irreducible] bt
theorem bind_of {α β : Type} {a : Option α} {x : α} {f : α → Option β} {y : Option β} (h : a = some x) (h2 : f x = y) : a.bind f = y := by
  subst h
  exact h2
theorem letter_f (c : UInt8) : token_letter.f (c.toNat : Int) = some (Tok.isLetter c) := by
  unfold token_letter.f Tok.isLetter
  by_cases h : (c.toNat : Int) ≥ 97
  · rw [if_pos h, decide_eq_true (show 97 ≤ c.toNat by omega), Bool.true_and]
    congr 1
    exact decide_eq_decide.2 (by omega)
  · rw [if_neg h, decide_eq_false (show ¬ 97 ≤ c.toNat by omega), Bool.false_and]
theorem digit_f (c : UInt8) : token_digit.f (c.toNat : Int) = some (Tok.isDigit c) := by
  unfold token_digit.f Tok.isDigit
  by_cases h : (c.toNat : Int) ≥ 48
  · rw [if_pos h, decide_eq_true (show 48 ≤ c.toNat by omega), Bool.true_and]
    congr 1
    exact decide_eq_decide.2 (by omega)
  · rw [if_neg h, decide_eq_false (show ¬ 48 ≤ c.toNat by omega), Bool.false_and]
theorem byte_eq (c : UInt8) (n : Nat) (hn : n < 256) : ((c.toNat : Int) == (n : Int)) = (c == n.toUInt8) := by
  rw [Bool.eq_iff_iff, beq_iff_eq, beq_iff_eq]
  constructor
  · intro h
    have h1 : c.toNat = n := by omega
    rw [← h1]; simp
  · rintro rfl
    simp [Nat.mod_eq_of_lt hn]
theorem byte_ne (c : UInt8) (n : Nat) (hn : n < 256) : ((c.toNat : Int) = (n : Int)) ↔ c = n.toUInt8 := by
  have := byte_eq c n hn
  rw [Bool.eq_iff_iff, beq_iff_eq, beq_iff_eq] at this
  exact this
theorem in_f (c : UInt8) : token_in.f (c.toNat : Int) = some (Tok.isIn c) := by
  unfold token_in.f Tok.isIn
  rw [letter_f]
  simp only [Option.bind_some]
  cases Tok.isLetter c
  · rw [if_neg (by decide), digit_f]
    simp only [Option.bind_some, Bool.false_or]
    cases Tok.isDigit c
    · rw [if_neg (by decide), Bool.false_or]; exact congrArg some (byte_eq c 95 (by decide))
    · rw [if_pos rfl, Bool.true_or]
  · rw [if_pos rfl, Bool.true_or]
theorem blank_f (c : UInt8) : token_blank.f (c.toNat : Int) = some (Tok.isBlank c) := by
  unfold token_blank.f Tok.isBlank
  have h1 := byte_eq c 32 (by decide); have h2 := byte_eq c 9 (by decide); have h3 := byte_eq c 10 (by decide)
  by_cases a : (c.toNat : Int) = 32
  · rw [if_pos a, show (c == 32) = true from h1.symm.trans (beq_iff_eq.2 a), Bool.true_or]
  · rw [if_neg a, show (c == 32) = false from h1.symm.trans (beq_eq_false_iff_ne.2 a), Bool.false_or]
    by_cases b : (c.toNat : Int) = 9
    · rw [if_pos b, show (c == 9) = true from h2.symm.trans (beq_iff_eq.2 b), Bool.true_or]
    · rw [if_neg b, show (c == 9) = false from h2.symm.trans (beq_eq_false_iff_ne.2 b), Bool.false_or]
      exact congrArg some h3
theorem tail_f (c : UInt8) : (if (c.toNat : Int) = 9 then some true else some ((c.toNat : Int) == 10)) = some (c == 9 || c == 10) := by
  have h2 := byte_eq c 9 (by decide); have h3 := byte_eq c 10 (by decide)
  by_cases b : (c.toNat : Int) = 9
  · rw [if_pos b, show (c == 9) = true from h2.symm.trans (beq_iff_eq.2 b), Bool.true_or]
  · rw [if_neg b, show (c == 9) = false from h2.symm.trans (beq_eq_false_iff_ne.2 b), Bool.false_or]
    exact congrArg some h3
theorem allowed_f (c : UInt8) : token_allowed.f (c.toNat : Int) = some (Tok.isAllowed c) := by
  unfold token_allowed.f Tok.isAllowed
  by_cases a : (c.toNat : Int) ≥ 32
  · rw [if_pos a, decide_eq_true (show 32 ≤ c.toNat by omega), Bool.true_and]
    by_cases b : (c.toNat : Int) ≤ 126
    · rw [if_pos b, decide_eq_true (show c.toNat ≤ 126 by omega), Bool.true_or]
    · rw [if_neg b, decide_eq_false (show ¬ c.toNat ≤ 126 by omega), Bool.false_or]; exact tail_f c
  · rw [if_neg a, decide_eq_false (show ¬ 32 ≤ c.toNat by omega), Bool.false_and, Bool.false_or]; exact tail_f c
theorem rem_f (c : UInt8) : token_skip_1.f (c.toNat : Int) = some (Tok.isRem c) := by
  unfold token_skip_1.f Tok.isRem
  have h3 := byte_eq c 10 (by decide)
  by_cases a : (c.toNat : Int) = 10
  · rw [if_pos a, show (c != 10) = false from by rw [bne, show (c == 10) = true from h3.symm.trans (beq_iff_eq.2 a)]; rfl, Bool.false_and]
  · rw [if_neg a, show (c != 10) = true from by rw [bne, show (c == 10) = false from h3.symm.trans (beq_eq_false_iff_ne.2 a)]; rfl, Bool.true_and, allowed_f]
    rfl
theorem ev_while {g : Nat → Int → Option Int} {q : Int → Option Bool} {p : UInt8 → Bool} (s : ByteArray) (hs : Sm s) (hq : ∀ c : UInt8, q (c.toNat : Int) = some (p c))
    (hg : ∀ k i, g (k + 1) i = if i < (s.size : Int) then (if 0 ≤ i then ((q (bt s i)).bind fun t => (if t = true then (g k (wrap64 (i + 1))) else (some i))) else (none)) else (some i)) :
    ∀ (d i : Nat), s.size - i = d → i ≤ s.size → Ev (fun k => g k (i : Int)) ((i + Tok.wl p (s.data.toList.drop i) : Nat) : Int) := by
  intro d
  induction d with
  | zero =>
    intro i h1 h2
    refine Ev.step (f := fun _ => some (i : Int)) (fun k => by rw [hg, if_neg (by omega)]) ?_
    rw [List.drop_of_length_le (by rw [len_eq]; omega), Tok.wl_nil]
    exact Ev.now _
  | succ d ih =>
    intro i h1 h2
    cases hd : s.data.toList.drop i with
    | nil => have := drop_nil_of hd h2; omega
    | cons c r =>
      obtain ⟨hb, hi⟩ := bt_of hd
      have hr : s.data.toList.drop (i + 1) = r := by rw [← List.drop_drop, hd]; rfl
      cases hp : p c with
      | false =>
        refine Ev.step (f := fun _ => some (i : Int)) (fun k => by rw [hg, if_pos (by omega), if_pos (by omega), hb, hq, hp]; rfl) ?_
        rw [Tok.wl_neg r hp]
        exact Ev.now _
      | true =>
        have h3 := ih (i + 1) (by omega) (by omega)
        rw [hr] at h3
        refine Ev.step (f := fun k => g k ((i + 1 : Nat) : Int)) (fun k => by rw [hg, if_pos (by omega), if_pos (by omega), hb, hq, hp]; simp only [Option.bind_some, if_true]; rw [w64 (by omega) (by omega)]; rfl) ?_
        rw [Tok.wl_pos r hp, show i + (Tok.wl p r + 1) = i + 1 + Tok.wl p r by omega]
        exact h3
theorem ev_wblank (s : ByteArray) (hs : Sm s) : Ev (fun k => token_while_at_token_blank.f k s) ((Tok.wl Tok.isBlank s.data.toList : Nat) : Int) := by
  have := ev_while (g := fun k i => token_while_at_token_blank.l0 k s i) s hs blank_f (fun k i => rfl) s.size 0 rfl (Nat.zero_le _)
  rw [List.drop_zero, Nat.zero_add] at this
  exact this
theorem ev_wrem (s : ByteArray) (hs : Sm s) : Ev (fun k => token_while_at_token_skip_1.f k s) ((Tok.wl Tok.isRem s.data.toList : Nat) : Int) := by
  have := ev_while (g := fun k i => token_while_at_token_skip_1.l0 k s i) s hs rem_f (fun k i => rfl) s.size 0 rfl (Nat.zero_le _)
  rw [List.drop_zero, Nat.zero_add] at this
  exact this
theorem ev_wdigit (s : ByteArray) (hs : Sm s) : Ev (fun k => token_while_at_token_digit.f k s) ((Tok.wl Tok.isDigit s.data.toList : Nat) : Int) := by
  have := ev_while (g := fun k i => token_while_at_token_digit.l0 k s i) s hs digit_f (fun k i => rfl) s.size 0 rfl (Nat.zero_le _)
  rw [List.drop_zero, Nat.zero_add] at this
  exact this
theorem ev_win (s : ByteArray) (hs : Sm s) : Ev (fun k => token_while_at_token_in.f k s) ((Tok.wl Tok.isIn s.data.toList : Nat) : Int) := by
  have := ev_while (g := fun k i => token_while_at_token_in.l0 k s i) s hs in_f (fun k i => rfl) s.size 0 rfl (Nat.zero_le _)
  rw [List.drop_zero, Nat.zero_add] at this
  exact this
theorem ext_size (s : ByteArray) (a : Nat) : (s.extract a s.size).size = s.size - a := by
  rw [← len_eq, ext_from, List.length_drop, len_eq]
theorem ext_sm {s : ByteArray} (hs : Sm s) (a : Nat) : Sm (s.extract a s.size) := by
  have := ext_size s a
  show _ ≤ _
  rw [this]
  have : s.size ≤ 4611686018427387904 := hs
  omega
theorem aux_lt {S i j b d w : Nat} (h1 : S - i = d) (hj : i + w = j) (hb : 0 < b) (hjl : j < S) : S - (j + b) < d := by omega
theorem aux_le {S j b : Nat} (h : b ≤ S - j) (hjl : j < S) : j + b ≤ S := by omega
theorem ev_skip (s : ByteArray) (hs : Sm s) : ∀ (d i : Nat), s.size - i = d → i ≤ s.size → Ev (fun k => token_skip.l0 k s (i : Int)) ((s.size - (Tok.skip (s.data.toList.drop i)).length : Nat) : Int) := by
  have hs' : s.size ≤ 4611686018427387904 := hs
  intro d
  induction d using Nat.strongRecOn with
  | _ d ih =>
    intro i h1 h2
    have hL : (s.data.toList.drop i).length = s.size - i := by rw [List.length_drop, len_eq]
    obtain ⟨K1, e1⟩ := ev_wblank (s.extract i s.size) (ext_sm hs i)
    dsimp only at e1
    rw [ext_from] at e1
    have hw := Tok.wl_le Tok.isBlank (s.data.toList.drop i)
    rw [hL] at hw
    have hdr : s.data.toList.drop (i + Tok.wl Tok.isBlank (s.data.toList.drop i)) = (s.data.toList.drop i).dropWhile Tok.isBlank := by
      rw [← List.drop_drop, Tok.drop_wl]
    have wj : wrap64 ((i : Int) + ((Tok.wl Tok.isBlank (s.data.toList.drop i) : Nat) : Int)) = ((i + Tok.wl Tok.isBlank (s.data.toList.drop i) : Nat) : Int) := by rw [w64 (by omega) (by omega)]; omega
    rw [Tok.skip_eq]
    generalize hj : i + Tok.wl Tok.isBlank (s.data.toList.drop i) = j at hdr wj
    have Wj := Aside0.mk wj
    clear wj
    cases hc : (s.data.toList.drop i).dropWhile Tok.isBlank with
    | nil =>
      rw [hc] at hdr
      have hje := drop_nil_of hdr (by omega)
      refine ⟨K1 + 1, fun k hk => ?_⟩
      obtain ⟨m, rfl⟩ : ∃ m, k = m + 1 := ⟨k - 1, by omega⟩
      simp only [token_skip.l0]
      rw [if_pos (by omega), if_pos (by omega), Int.toNat_natCast]
      refine bind_of (e1 m (by omega)) ?_
      rw [Wj.out, if_pos (by omega)]
      simp only [List.length_nil, Nat.sub_zero]
      rw [hje]
    | cons c r =>
      rw [hc] at hdr
      obtain ⟨hb, hjl⟩ := bt_of hdr
      have hlen : (c :: r : Tok.Bs).length = s.size - j := by rw [← hdr, List.length_drop, len_eq]
      by_cases h35 : c = 35
      · have hbt : bt s (j : Int) = 35 := by rw [hb]; exact (byte_ne c 35 (by decide)).2 h35
        simp only [if_pos h35]
        obtain ⟨K2, e2⟩ := ev_wrem (s.extract j s.size) (ext_sm hs j)
        dsimp only at e2
        rw [ext_from, hdr] at e2
        have hw2 := Tok.wl_le Tok.isRem (c :: r)
        rw [hlen] at hw2
        have hpos : 0 < Tok.wl Tok.isRem (c :: r) := by rw [Tok.wl_pos r (by rw [h35]; exact Tok.rem_hash)]; omega
        have hdr2 : s.data.toList.drop (j + Tok.wl Tok.isRem (c :: r)) = (c :: r : Tok.Bs).dropWhile Tok.isRem := by
          rw [← List.drop_drop, hdr, Tok.drop_wl]
        generalize Tok.wl Tok.isRem (c :: r) = b at *
        have wk : wrap64 ((j : Int) + (b : Int)) = ((j + b : Nat) : Int) := by rw [w64 (by omega) (by omega)]; omega
        have Wk := Aside0.mk wk
        clear wk
        have Hbt := Aside0.mk hbt
        clear hbt
        have hlt : s.size - (j + b) < d := aux_lt h1 hj hpos hjl
        have hle : j + b ≤ s.size := aux_le hw2 hjl
        obtain ⟨K3, e3⟩ := ih _ hlt (j + b) (Eq.refl _) hle
        dsimp only at e3
        rw [hdr2] at e3
        refine ⟨K1 + K2 + K3 + 1, fun k hk => ?_⟩
        obtain ⟨m, rfl⟩ : ∃ m, k = m + 1 := ⟨k - 1, by omega⟩
        simp only [token_skip.l0]
        rw [if_pos (by omega), if_pos (by omega), Int.toNat_natCast]
        refine bind_of (e1 m (by omega)) ?_
        rw [Wj.out, if_neg (by omega), if_pos (by omega), if_pos (by omega), if_pos Hbt.out, if_pos (by omega), Int.toNat_natCast]
        refine bind_of (e2 m (by omega)) ?_
        rw [Wk.out]
        exact e3 m (by omega)
      · have hne : ¬ bt s (j : Int) = 35 := by rw [hb]; exact fun h => h35 ((byte_ne c 35 (by decide)).1 h)
        simp only [if_neg h35]
        refine ⟨K1 + 1, fun k hk => ?_⟩
        obtain ⟨m, rfl⟩ : ∃ m, k = m + 1 := ⟨k - 1, by omega⟩
        simp only [token_skip.l0]
        rw [if_pos (by omega), if_pos (by omega), Int.toNat_natCast]
        refine bind_of (e1 m (by omega)) ?_
        rw [Wj.out, if_neg (by omega), if_pos (by omega), if_pos (by omega), if_neg hne]
        rw [hlen]
        congr 1
        omega
theorem ev_skip0 (s : ByteArray) (hs : Sm s) : Ev (fun k => token_skip.f k s) ((s.size - (Tok.skip s.data.toList).length : Nat) : Int) := by
  have := ev_skip s hs s.size 0 rfl (Nat.zero_le _)
  rw [List.drop_zero] at this
  exact this
theorem ev_number (s : ByteArray) (hs : Sm s) : Ev (fun k => token_number.f k s) ((Tok.numN s.data.toList : Nat) : Int) := by
  have hs' : s.size ≤ 4611686018427387904 := hs
  obtain ⟨K1, e1⟩ := ev_wdigit s hs
  dsimp only at e1
  have hw := Tok.wl_le Tok.isDigit s.data.toList
  rw [len_eq] at hw
  unfold Tok.numN
  generalize hn : Tok.wl Tok.isDigit s.data.toList = n at *
  have stop : ∀ m, token_number.j0 (m + 1) s (n : Int) false = some (n : Int) := fun m => by simp only [token_number.j0]; rw [if_neg (by decide)]
  have plain : ∀ (K : Nat), (∀ m, K ≤ m → token_number.f m s = token_number.j0 m s (n : Int) false) → Ev (fun k => token_number.f k s) (n : Int) := by
    intro K h
    refine ⟨K + 1, fun k hk => ?_⟩
    obtain ⟨m, rfl⟩ : ∃ m, k = m + 1 := ⟨k - 1, by omega⟩
    show token_number.f (m + 1) s = _
    rw [h (m + 1) (by omega), stop]
  by_cases h0 : n > 0
  · cases hd : s.data.toList.drop n with
    | nil =>
      have hne : s.data.toList[n]? = none := by
        rw [List.getElem?_eq_none_iff]; rw [List.drop_eq_nil_iff] at hd; exact hd
      rw [if_neg (by rw [hne]; simp)]
      have := drop_nil_of hd hw
      refine plain K1 (fun m hm => ?_)
      unfold token_number.f
      refine bind_of (e1 m hm) ?_
      rw [if_pos (by omega), if_neg (by omega)]
    | cons c r =>
      obtain ⟨hb, hnl⟩ := bt_of hd
      have hat : s.data.toList[n]? = some c := by
        have := List.getElem?_drop (xs := s.data.toList) (i := n) (j := 0)
        rw [hd] at this
        simpa using this.symm
      have hr : s.data.toList.drop (n + 1) = r := by rw [← List.drop_drop, hd]; rfl
      by_cases h46 : c = 46
      · have hbt : bt s (n : Int) = 46 := by rw [hb]; exact (byte_ne c 46 (by decide)).2 h46
        subst h46
        obtain ⟨K2, e2⟩ := ev_wdigit (s.extract (n + 1) s.size) (ext_sm hs (n + 1))
        dsimp only at e2
        rw [ext_from, hr] at e2
        rw [hr, hat]
        have hw2 := Tok.wl_le Tok.isDigit r
        have hlr : r.length = s.size - (n + 1) := by rw [← hr, List.length_drop, len_eq]
        generalize Tok.wl Tok.isDigit r = b at *
        have w1 : wrap64 ((n : Int) + 1) = ((n + 1 : Nat) : Int) := by rw [w64 (by omega) (by omega)]; rfl
        have w2 : wrap64 ((n : Int) + wrap64 (1 + (b : Int))) = ((n + 1 + b : Nat) : Int) := by rw [w64 (n := 1 + (b : Int)) (by omega) (by omega), w64 (by omega) (by omega)]; omega
        refine ⟨K1 + K2 + 1, fun k hk => ?_⟩
        obtain ⟨m, rfl⟩ : ∃ m, k = m + 1 := ⟨k - 1, by omega⟩
        show token_number.f (m + 1) s = _
        unfold token_number.f
        refine bind_of (e1 (m + 1) (by omega)) ?_
        rw [if_pos (by omega), if_pos (by omega), if_pos (by omega), hbt]
        simp only [token_number.j0]
        rw [if_pos (show ((46 : Int) == 46) = true from rfl), w1, if_pos (by omega), if_pos (by omega), Int.toNat_natCast]
        refine bind_of (e2 m (by omega)) ?_
        by_cases hb0 : b > 0
        · rw [if_pos (by omega), if_pos ⟨h0, by trivial, hb0⟩, w2]
        · rw [if_neg (by omega), if_neg (by omega)]
      · rw [if_neg (by rw [hat]; simp [h46])]
        have hne : (bt s (n : Int) == 46) = false := by rw [hb]; exact beq_eq_false_iff_ne.2 (fun h => h46 ((byte_ne c 46 (by decide)).1 h))
        refine plain K1 (fun m hm => ?_)
        unfold token_number.f
        refine bind_of (e1 m hm) ?_
        rw [if_pos (by omega), if_pos (by omega), if_pos (by omega), hne]
  · rw [if_neg (by omega)]
    refine plain K1 (fun m hm => ?_)
    unfold token_number.f
    refine bind_of (e1 m hm) ?_
    rw [if_neg (by omega)]
end Go.Proofs.YteobbnehdlcphaaDoor.P
namespace Go.Proofs.YteobbnehdlcphaaDoor.P
open Go.RowKit Go.Proofs.YteobbnehdlcphaaDoorW.PrintWords Go.Proofs.YteobbnehdlcphaaDoorW.PrintLast Go.Proofs.YteobbnehdlcphaaDoorW.PrintMore
open Go.Proofs.YteobbnehdlcphaaDoor
attribute [local irreducible] bt
def toB (l : Tok.Bs) : ByteArray := ⟨l.toArray⟩
theorem toB_list (l : Tok.Bs) : (toB l).data.toList = l := rfl
theorem toB_size (l : Tok.Bs) : (toB l).size = l.length := by rw [← len_eq, toB_list]
theorem toB_of (s : ByteArray) : toB s.data.toList = s := rfl
theorem toB_inj {s t : ByteArray} (h : s.data.toList = t.data.toList) : s = t := by rw [← toB_of s, ← toB_of t, h]
theorem toB_upto (s : ByteArray) (n : Nat) : s.extract 0 n = toB (s.data.toList.take n) := toB_inj (by rw [ext_upto, toB_list])
theorem toB_from (s : ByteArray) (n : Nat) : s.extract n s.size = toB (s.data.toList.drop n) := toB_inj (by rw [ext_from, toB_list])
theorem hasPrefix_list : ∀ (a b : Tok.Bs), (a.take b.length == b) = b.isPrefixOf a
  | a, [] => by simp
  | [], c :: b => by simp
  | d :: a, c :: b => by
    show ((d == c) && (a.take b.length == b)) = ((c == d) && b.isPrefixOf a)
    have h : (d == c) = (c == d) := by
      rw [Bool.eq_iff_iff, beq_iff_eq, beq_iff_eq]
      exact eq_comm
    rw [h, hasPrefix_list a b]
theorem prefix_false : ∀ (a b : Tok.Bs), a.length < b.length → b.isPrefixOf a = false
  | [], [], h => by simp at h
  | [], c :: b, _ => rfl
  | d :: a, [], h => by simp at h
  | d :: a, c :: b, h => by
    simp only [List.isPrefixOf, prefix_false a b (by simpa using h), Bool.and_false]
theorem hasPrefix_f (a b : ByteArray) : strings_HasPrefix.f a b = some (b.data.toList.isPrefixOf a.data.toList) := by
  unfold strings_HasPrefix.f stringslite_HasPrefix.f
  by_cases h : (a.size : Int) ≥ (b.size : Int)
  · rw [if_pos h, if_pos (by omega), if_pos h]
    rw [Int.toNat_natCast, toList_eq, toList_eq, ext_upto, ← len_eq b, hasPrefix_list]
    rfl
  · rw [if_neg h, prefix_false _ _ (by rw [len_eq, len_eq]; omega)]
    rfl
theorem ev_index (l : List ByteArray) (x : ByteArray) (hl : l.length ≤ 1000) : ∀ (d i : Nat), l.length - i = d → i ≤ l.length →
    Ev (fun k => (slices_Index_string_string.l0 k l x (l.length : Int) (i : Int)).bind fun t => some (decide (t ≥ 0))) ((l.drop i).any fun t => x.data.toList == t.data.toList) := by
  intro d
  induction d with
  | zero =>
    intro i h1 h2
    rw [List.drop_of_length_le (by omega)]
    refine ⟨1, fun k hk => ?_⟩
    obtain ⟨m, rfl⟩ : ∃ m, k = m + 1 := ⟨k - 1, by omega⟩
    simp only [slices_Index_string_string.l0]
    rw [if_neg (by omega)]
    rfl
  | succ d ih =>
    intro i h1 h2
    have hi : i < l.length := by omega
    rw [List.drop_eq_getElem_cons hi, List.any_cons]
    have hrd : rdOf ByteArray.empty l (i : Int) = l[i] := by
      unfold rdOf
      rw [Int.toNat_natCast, List.getD_eq_getElem?_getD, List.getElem?_eq_getElem hi]
      rfl
    obtain ⟨K, e⟩ := ih (i + 1) (by omega) (by omega)
    dsimp only at e
    have w1 : wrap64 ((i : Int) + 1) = ((i + 1 : Nat) : Int) := by rw [w64 (by omega) (by omega)]; rfl
    refine ⟨K + 1, fun k hk => ?_⟩
    obtain ⟨m, rfl⟩ : ∃ m, k = m + 1 := ⟨k - 1, by omega⟩
    simp only [slices_Index_string_string.l0]
    rw [if_pos (by omega), if_pos (by omega), if_pos (by omega), hrd, toList_eq, toList_eq]
    by_cases hx : x.data.toList = l[i].data.toList
    · rw [if_pos hx, show (x.data.toList == l[i].data.toList) = true from beq_iff_eq.2 hx, Bool.true_or]
      exact congrArg some (decide_eq_true (by omega))
    · rw [if_neg hx, show (x.data.toList == l[i].data.toList) = false from beq_eq_false_iff_ne.2 hx, Bool.false_or, w1]
      exact e m (by omega)
theorem words_eq : wordsL.map (fun t => t.data.toList) = Tok.words := rfl
theorem signs_eq : signsL.map (fun t => t.data.toList) = Tok.signs := rfl
theorem any_words (x : Tok.Bs) : (wordsL.any fun t => x == t.data.toList) = Tok.isWord x := by
  unfold Tok.isWord
  rw [← words_eq, List.contains_eq_any_beq, List.any_map]
  rfl
theorem ev_contains (x : ByteArray) : Ev (fun k => slices_Contains_string_string.f k wordsL x) (Tok.isWord x.data.toList) := by
  have := ev_index wordsL x (by decide) wordsL.length 0 rfl (Nat.zero_le _)
  rw [List.drop_zero, any_words] at this
  exact this
theorem ev_sign (s : ByteArray) : ∀ (d i : Nat), signsL.length - i = d → i ≤ signsL.length →
    Ev (fun k => token_next.l0 k s signsL (signsL.length : Int) (i : Int)) (match (signsL.drop i).find? (fun t => t.data.toList.isPrefixOf s.data.toList) with | some t => (4, t, 0) | none => (0, (⟨#[]⟩ : ByteArray), 0)) := by
  have hl : signsL.length ≤ 1000 := by decide
  generalize signsL = l at *
  intro d
  induction d with
  | zero =>
    intro i h1 h2
    rw [List.drop_of_length_le (by omega)]
    refine ⟨1, fun k hk => ?_⟩
    obtain ⟨m, rfl⟩ : ∃ m, k = m + 1 := ⟨k - 1, by omega⟩
    simp only [token_next.l0]
    rw [if_neg (by omega)]
    rfl
  | succ d ih =>
    intro i h1 h2
    have hi : i < l.length := by omega
    rw [List.drop_eq_getElem_cons hi, List.find?_cons]
    have hrd : rdOf ByteArray.empty l (i : Int) = l[i] := by
      unfold rdOf
      rw [Int.toNat_natCast, List.getD_eq_getElem?_getD, List.getElem?_eq_getElem hi]
      rfl
    obtain ⟨K, e⟩ := ih (i + 1) (by omega) (by omega)
    dsimp only at e
    have w1 : wrap64 ((i : Int) + 1) = ((i + 1 : Nat) : Int) := by rw [w64 (by omega) (by omega)]; rfl
    refine ⟨K + 1, fun k hk => ?_⟩
    obtain ⟨m, rfl⟩ : ∃ m, k = m + 1 := ⟨k - 1, by omega⟩
    simp only [token_next.l0]
    rw [if_pos (by omega), if_pos (by omega), if_pos (by omega), hrd]
    refine bind_of (hasPrefix_f s l[i]) ?_
    cases hp : l[i].data.toList.isPrefixOf s.data.toList
    · rw [if_neg (by decide), w1]; exact e m (by omega)
    · rw [if_pos rfl]
theorem signAt_eq (x : Tok.Bs) : (match signsL.find? (fun t => t.data.toList.isPrefixOf x) with | some t => ((4 : Int), t, (0 : Int)) | none => (0, (⟨#[]⟩ : ByteArray), 0)) = (match Tok.signAt x with | some t => ((4 : Int), toB t, (0 : Int)) | none => (0, toB [], 0)) := by
  unfold Tok.signAt
  rw [← signs_eq, List.find?_map]
  cases h : signsL.find? (fun t => t.data.toList.isPrefixOf x) with
  | none =>
    have : List.find? ((fun s => List.isPrefixOf s x) ∘ fun t : ByteArray => t.data.toList) signsL = none := h
    rw [this]
    rfl
  | some t =>
    have : List.find? ((fun s => List.isPrefixOf s x) ∘ fun t : ByteArray => t.data.toList) signsL = some t := h
    rw [this]
    rfl
theorem ev_next (s : ByteArray) (hs : Sm s) (h0 : s.data.toList ≠ []) : Ev (fun k => token_next.f k s) ((Tok.next s.data.toList).1, toB (Tok.next s.data.toList).2, 0) := by
  have hs' : s.size ≤ 4611686018427387904 := hs
  obtain ⟨c, r, hcr⟩ : ∃ c r, s.data.toList = c :: r := by
    cases h : s.data.toList with
    | nil => exact absurd h h0
    | cons c r => exact ⟨c, r, rfl⟩
  obtain ⟨hb, hpos⟩ := bt_of (s := s) (i := 0) (by rw [List.drop_zero]; exact hcr)
  have hb' : bt s 0 = (c.toNat : Int) := hb
  unfold Tok.next
  cases hl : Tok.isLetter c with
  | true =>
    rw [if_pos (by rw [hcr]; exact hl)]
    obtain ⟨K1, e1⟩ := ev_win s hs
    dsimp only at e1
    have hw := Tok.wl_le Tok.isIn s.data.toList
    rw [len_eq] at hw
    have htk := Tok.take_wl Tok.isIn s.data.toList
    generalize Tok.wl Tok.isIn s.data.toList = n at *
    obtain ⟨K2, e2⟩ := ev_contains (s.extract 0 n)
    dsimp only at e2
    rw [ext_upto, htk] at e2
    refine ⟨K1 + K2, fun k hk => ?_⟩
    show token_next.f k s = _
    unfold token_next.f
    rw [if_pos (by omega), hb']
    refine bind_of (letter_f c) ?_
    rw [hl, if_pos rfl]
    refine bind_of (e1 k (by omega)) ?_
    rw [if_pos (by omega), if_pos (by omega), Int.toNat_natCast]
    refine bind_of (e2 k (by omega)) ?_
    rw [toB_upto, htk]
    cases Tok.isWord (List.takeWhile Tok.isIn s.data.toList) <;> rfl
  | false =>
    rw [if_neg (by rw [hcr]; simp [Tok.hd, hl])]
    obtain ⟨K1, e1⟩ := ev_number s hs
    dsimp only at e1
    have hn := Tok.numN_le s.data.toList
    rw [len_eq] at hn
    generalize Tok.numN s.data.toList = n at *
    by_cases h1 : n > 0
    · rw [if_pos h1]
      refine ⟨K1, fun k hk => ?_⟩
      show token_next.f k s = _
      unfold token_next.f
      rw [if_pos (by omega), hb']
      refine bind_of (letter_f c) ?_
      rw [hl, if_neg (by decide)]
      refine bind_of (e1 k (by omega)) ?_
      rw [if_pos (by omega), if_pos (by omega), if_pos (by omega), Int.toNat_natCast, toB_upto]
    · rw [if_neg h1]
      obtain ⟨K2, e2⟩ := ev_sign s signsL.length 0 rfl (Nat.zero_le _)
      dsimp only at e2
      rw [List.drop_zero, signAt_eq] at e2
      refine ⟨K1 + K2, fun k hk => ?_⟩
      show token_next.f k s = _
      unfold token_next.f
      rw [if_pos (by omega), hb']
      refine bind_of (letter_f c) ?_
      rw [hl, if_neg (by decide)]
      refine bind_of (e1 k (by omega)) ?_
      rw [if_neg (by omega)]
      have e3 := e2 k (by omega)
      rw [show (((0 : Nat) : Int)) = (0 : Int) from rfl] at e3
      rw [e3]
      cases Tok.signAt s.data.toList <;> rfl
def toS (t : Tok.T) : S44 := ⟨t.k, toB t.t, (t.a : Int)⟩
end Go.Proofs.YteobbnehdlcphaaDoor.P
namespace Go.Proofs.YteobbnehdlcphaaDoor.Tok
def consT (x : T) (r : List T × Int × Int) : List T × Int × Int := if r.2.2 = 0 then (x :: r.1, r.2.1, 0) else ([], r.2.1, r.2.2)
theorem consT_of (x : T) (r : List T × Int × Int) : (match r with
      | (ts, p, 0) => (x :: ts, p, 0)
      | (_, p, e) => ([], p, e)) = consT x r := by
  rcases r with ⟨ts, p, e⟩
  unfold consT
  by_cases h : e = 0
  · subst h; rfl
  · rw [if_neg h]
    split
    · rename_i heq; injection heq with _ heq; injection heq with _ heq; exact absurd heq h
    · rename_i heq; injection heq with _ heq; injection heq with h1 h2; subst h1; subst h2; rfl
theorem scanF_eq (n : Nat) (l : Bs) (a : Nat) : scanF (n + 1) l a =
    if skip l = [] then ([⟨5, [], a + l.length⟩], 0, 0)
    else if (next (skip l)).1 = 0 then ([], ((a + (l.length - (skip l).length) : Nat) : Int), 5)
    else if (next (skip l)).2.length > 24 ∧ (next (skip l)).1 = 1 then ([], ((a + (l.length - (skip l).length) : Nat) : Int), 13)
    else consT ⟨(next (skip l)).1, (next (skip l)).2, a + (l.length - (skip l).length)⟩ (scanF n ((skip l).drop (next (skip l)).2.length) (a + (l.length - (skip l).length) + (next (skip l)).2.length)) := by
  rw [← consT_of]
  rfl
theorem scanG_eq (l : Bs) (a : Nat) (h : skip l = l) (hne : l ≠ []) : scanG l a =
    if (next l).1 = 0 then ([], (a : Int), 5)
    else if (next l).2.length > 24 ∧ (next l).1 = 1 then ([], (a : Int), 13)
    else consT ⟨(next l).1, (next l).2, a⟩ (scanG (l.drop (next l).2.length) (a + (next l).2.length)) := by
  rw [← consT_of]
  exact scanG_stay l a h hne
end Go.Proofs.YteobbnehdlcphaaDoor.Tok
namespace Go.Proofs.YteobbnehdlcphaaDoor.P
open Go.RowKit Go.Proofs.YteobbnehdlcphaaDoorW.PrintWords Go.Proofs.YteobbnehdlcphaaDoorW.PrintLast Go.Proofs.YteobbnehdlcphaaDoorW.PrintMore
open Go.Proofs.YteobbnehdlcphaaDoor
attribute [local irreducible] bt
def res (acc : List S44) (r : List Tok.T × Int × Int) : List S44 × Int × Int := if r.2.2 = 0 then (acc ++ r.1.map toS, r.2.1, 0) else ([], r.2.1, r.2.2)
theorem res_cons (acc : List S44) (x : Tok.T) (r : List Tok.T × Int × Int) : res acc (Tok.consT x r) = res (acc ++ [toS x]) r := by
  unfold res Tok.consT
  by_cases h : r.2.2 = 0
  · simp only [if_pos h, if_true, List.map_cons, List.append_assoc, List.singleton_append]
  · simp only [if_neg h]
theorem acc_le {α : Type} {l : List α} {x : α} {i j n : Nat} (h : l.length ≤ i) (hij : i ≤ j) (hn : 0 < n) : (l ++ [x]).length ≤ j + n := by
  simp only [List.length_append, List.length_cons, List.length_nil]; omega
theorem aux_lt2 {S i j t n : Nat} (h : S - i < n + 1) (hij : i ≤ j) (hj : j < S) (ht : 0 < t) : S - (j + t) < n := by omega
theorem acc_out {α : Type} {l : List α} {i S : Nat} (h : l.length ≤ i) (hi : i ≤ S) (hS : S ≤ 20000) : l.length < 4398046511104 := by omega
theorem ev_scan (s : ByteArray) (hs : s.size ≤ 20000) : ∀ (n i : Nat) (acc : List S44), s.size - i < n → i ≤ s.size → acc.length ≤ i →
    Ev (fun k => token_Scan.l0 k s acc (i : Int)) (res acc (Tok.scanF n (s.data.toList.drop i) i)) := by
  have hsm : Sm s := Nat.le_trans hs (by decide)
  intro n
  induction n with
  | zero => intro i acc h; omega
  | succ n ih =>
    intro i acc h1 h2 h3
    have hL : (s.data.toList.drop i).length = s.size - i := by rw [List.length_drop, len_eq]
    obtain ⟨K1, e1⟩ := ev_skip0 (s.extract i s.size) (ext_sm hsm i)
    dsimp only at e1
    rw [ext_from, ext_size] at e1
    have hsl := Tok.skip_le (s.data.toList.drop i)
    have hsd := Tok.skip_drop (s.data.toList.drop i)
    rw [hL] at hsl hsd
    rw [List.drop_drop] at hsd
    rw [Tok.scanF_eq, hL]
    have hout : acc.length < 4398046511104 := acc_out h3 h2 hs
    have wj : wrap64 ((i : Int) + ((s.size - i - (Tok.skip (s.data.toList.drop i)).length : Nat) : Int)) = ((i + (s.size - i - (Tok.skip (s.data.toList.drop i)).length) : Nat) : Int) := by rw [w64 (by omega) (by omega)]; omega
    have hij : i ≤ i + (s.size - i - (Tok.skip (s.data.toList.drop i)).length) := Nat.le_add_right _ _
    have hjle : i + (s.size - i - (Tok.skip (s.data.toList.drop i)).length) ≤ s.size := by omega
    have hjlen : (Tok.skip (s.data.toList.drop i)).length = s.size - (i + (s.size - i - (Tok.skip (s.data.toList.drop i)).length)) := by omega
    generalize hsk : Tok.skip (s.data.toList.drop i) = l at *
    generalize i + (s.size - i - l.length) = j at *
    have Wj := Aside0.mk wj
    clear wj
    by_cases hn : l = []
    · rw [if_pos hn]
      have hj : j = s.size := by rw [hn] at hjlen; simp only [List.length_nil] at hjlen; omega
      refine ⟨K1 + 1, fun k hk => ?_⟩
      obtain ⟨m, rfl⟩ : ∃ m, k = m + 1 := ⟨k - 1, by omega⟩
      simp only [token_Scan.l0]
      rw [if_pos (by omega), if_pos (by omega), Int.toNat_natCast]
      refine bind_of (e1 m (by omega)) ?_
      rw [Wj.out, if_pos (by omega), if_pos hout]
      have : i + (s.size - i) = j := by omega
      rw [this]
      rfl
    · rw [if_neg hn]
      have hlpos : 0 < l.length := List.length_pos_iff.2 hn
      have hjl : j < s.size := by omega
      obtain ⟨K2, e2⟩ := ev_next (s.extract j s.size) (ext_sm hsm j) (by rw [ext_from, hsd]; exact hn)
      dsimp only at e2
      rw [ext_from, hsd] at e2
      have hnl := Tok.next_len_le l
      have hnt := Tok.next_text l
      generalize Tok.next l = nx at *
      obtain ⟨nk, nt⟩ := nx
      dsimp only at e2 hnl hnt ⊢
      by_cases hk0 : nk = 0
      · rw [if_pos hk0]
        refine ⟨K1 + K2 + 1, fun k hk => ?_⟩
        obtain ⟨m, rfl⟩ : ∃ m, k = m + 1 := ⟨k - 1, by omega⟩
        simp only [token_Scan.l0]
        rw [if_pos (by omega), if_pos (by omega), Int.toNat_natCast]
        refine bind_of (e1 m (by omega)) ?_
        rw [Wj.out, if_neg (by omega), if_pos (by omega), if_pos (by omega), Int.toNat_natCast]
        refine bind_of (e2 m (by omega)) ?_
        dsimp only
        rw [if_pos hk0]
        rfl
      · rw [if_neg hk0]
        have htpos := (hnt hk0).2
        have hext := (hnt hk0).1
        by_cases hbig : nt.length > 24 ∧ nk = 1
        · rw [if_pos hbig]
          refine ⟨K1 + K2 + 1, fun k hk => ?_⟩
          obtain ⟨m, rfl⟩ : ∃ m, k = m + 1 := ⟨k - 1, by omega⟩
          simp only [token_Scan.l0]
          rw [if_pos (by omega), if_pos (by omega), Int.toNat_natCast]
          refine bind_of (e1 m (by omega)) ?_
          rw [Wj.out, if_neg (by omega), if_pos (by omega), if_pos (by omega), Int.toNat_natCast]
          refine bind_of (e2 m (by omega)) ?_
          dsimp only
          rw [if_neg hk0, toB_size, if_pos (by omega), if_pos hbig.2]
          rfl
        · rw [if_neg hbig, res_cons]
          obtain ⟨K3, e3⟩ := ih (j + nt.length) (acc ++ [toS ⟨nk, nt, j⟩]) (aux_lt2 h1 hij hjl htpos) (by omega) (acc_le h3 hij htpos)
          dsimp only at e3
          rw [← List.drop_drop, hsd] at e3
          have wk : wrap64 ((j : Int) + (nt.length : Int)) = ((j + nt.length : Nat) : Int) := by rw [w64 (by omega) (by omega)]; omega
          have Wk := Aside0.mk wk
          clear wk
          refine ⟨K1 + K2 + K3 + 1, fun k hk => ?_⟩
          obtain ⟨m, rfl⟩ : ∃ m, k = m + 1 := ⟨k - 1, by omega⟩
          simp only [token_Scan.l0]
          rw [if_pos (by omega), if_pos (by omega), Int.toNat_natCast]
          refine bind_of (e1 m (by omega)) ?_
          rw [Wj.out, if_neg (by omega), if_pos (by omega), if_pos (by omega), Int.toNat_natCast]
          refine bind_of (e2 m (by omega)) ?_
          dsimp only
          rw [if_neg hk0, toB_size, Wk.out]
          have e4 := e3 m (by omega)
          unfold toS at e4 ⊢
          by_cases hb : nt.length > 24
          · rw [if_pos (by omega), if_neg (fun h => hbig ⟨hb, h⟩), if_pos hout]; exact e4
          · rw [if_neg (by omega), if_pos hout]; exact e4
theorem ev_Scan (s : ByteArray) (hs : s.size ≤ 20000) : Ev (fun k => token_Scan.f k s) (res [] (Tok.scanG s.data.toList 0)) := by
  obtain ⟨K, e⟩ := ev_scan s hs (s.data.toList.length + 1) 0 [] (by rw [len_eq]; omega) (Nat.zero_le _) (Nat.zero_le _)
  dsimp only at e
  rw [List.drop_zero] at e
  refine ⟨K, fun k hk => ?_⟩
  show token_Scan.f k s = _
  unfold token_Scan.f
  rw [if_neg (by omega)]
  exact e k hk
theorem Scan_long (s : ByteArray) (hs : ¬ s.size ≤ 20000) (k : Nat) : token_Scan.f k s = some (([] : List S44), 0, 3) := by
  unfold token_Scan.f
  rw [if_pos (by omega)]
end Go.Proofs.YteobbnehdlcphaaDoor.P

