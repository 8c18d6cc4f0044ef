import Derived.Test.YteobbnehdlcphaaDoorQDP21
import Derived.Test.YteobbnehdlcphaaDoorQDTJ
import Derived.Test.YteobbnehdlcphaaDoorQDT14
import Derived.Test.YteobbnehdlcphaaDoorQDT15
namespace Go.Proofs.YteobbnehdlcphaaDoor.Tok
theorem wl_append (p : UInt8 → Bool) (r : Bs) : ∀ l : Bs, wl p (l ++ r) = if wl p l = l.length then l.length + wl p r else wl p l
  | [] => by simp [wl_nil]
  | c :: l => by
    have ih := wl_append p r l
    cases hc : p c with
    | false => rw [List.cons_append, wl_neg _ hc, wl_neg _ hc, if_neg (by rw [List.length_cons]; omega)]
    | true =>
      rw [List.cons_append, wl_pos _ hc, wl_pos _ hc, ih, List.length_cons]
      by_cases h : wl p l = l.length
      · rw [if_pos h, if_pos (by omega)]; omega
      · rw [if_neg h, if_neg (by omega)]
theorem numN_ge (l : Bs) : wl isDigit l ≤ numN l := by
  unfold numN
  split <;> omega
theorem numN_look {t : Bs} (h : numN t = t.length) {c : UInt8} (hc : c ≠ 46) (r : Bs) : numN (t ++ c :: r) = t.length ↔ isDigit c = false := by
  have hw := wl_append isDigit (c :: r) t
  by_cases hD : wl isDigit t = t.length
  · rw [if_pos hD] at hw
    cases hd : isDigit c with
    | true =>
      rw [wl_pos r hd] at hw
      have := numN_ge (t ++ c :: r)
      constructor
      · intro h2; omega
      · intro h2; cases h2
    | false =>
      rw [wl_neg r hd, Nat.add_zero] at hw
      refine ⟨fun _ => rfl, fun _ => ?_⟩
      have hat : (t ++ c :: r)[t.length]? = some c := by rw [List.getElem?_append_right (Nat.le_refl _), Nat.sub_self]; rfl
      unfold numN
      rw [hw, hat, if_neg (fun x => hc (Option.some.inj x.2.1))]
  · rw [if_neg hD] at hw
    have hle := wl_le isDigit t
    have hcond : wl isDigit t > 0 ∧ t[wl isDigit t]? = some 46 ∧ wl isDigit (t.drop (wl isDigit t + 1)) > 0 := by
      by_cases hx : wl isDigit t > 0 ∧ t[wl isDigit t]? = some 46 ∧ wl isDigit (t.drop (wl isDigit t + 1)) > 0
      · exact hx
      · unfold numN at h; rw [if_neg hx] at h; exact absurd h hD
    have hn : wl isDigit t + 1 + wl isDigit (t.drop (wl isDigit t + 1)) = t.length := by
      have h2 := h
      unfold numN at h2
      rw [if_pos hcond] at h2
      exact h2
    obtain ⟨h1, h2, h3⟩ := hcond
    have hat : (t ++ c :: r)[wl isDigit t]? = some 46 := by rw [List.getElem?_append_left (by omega), h2]
    have hdr : (t ++ c :: r).drop (wl isDigit t + 1) = t.drop (wl isDigit t + 1) ++ c :: r := List.drop_append_of_le_length (by omega)
    have hw2 := wl_append isDigit (c :: r) (t.drop (wl isDigit t + 1))
    rw [if_pos (by rw [List.length_drop]; omega), List.length_drop] at hw2
    have he : numN (t ++ c :: r) = t.length + wl isDigit (c :: r) := by
      unfold numN
      rw [hw, hat, hdr, hw2, if_pos ⟨h1, rfl, by omega⟩]
      omega
    rw [he]
    cases hd : isDigit c with
    | true => rw [wl_pos r hd]; exact ⟨fun x => absurd x (by omega), fun x => by cases x⟩
    | false => rw [wl_neg r hd]; exact ⟨fun _ => rfl, fun _ => rfl⟩
theorem prefix_short : ∀ (s x y : Bs), s.length ≤ x.length → s.isPrefixOf (x ++ y) = s.isPrefixOf x
  | [], x, y, _ => by cases x <;> rfl
  | c :: s, [], y, h => absurd h (by simp)
  | c :: s, d :: x, y, h => by
    show ((c == d) && s.isPrefixOf (x ++ y)) = ((c == d) && s.isPrefixOf x)
    rw [prefix_short s x y (by simpa using h)]
theorem signs_len : ∀ s ∈ signs, s.length ≤ 2 := by
  have h : (signs.all fun s => decide (s.length ≤ 2)) = true := by decide
  intro s hs
  exact of_decide_eq_true (List.all_eq_true.1 h s hs)
theorem signAt_two (x y : Bs) (h : 2 ≤ x.length) : signAt (x ++ y) = signAt x :=
  find_congr _ (fun s hs => prefix_short s x y (Nat.le_trans (signs_len s hs) h))
theorem signs_spc : ∀ s ∈ signs, (next (s ++ [32])).2.length = s.length := by
  have h : (signs.all fun s => decide ((next (s ++ [32])).2.length = s.length)) = true := by decide
  intro s hs
  exact of_decide_eq_true (List.all_eq_true.1 h s hs)
theorem signs_dot : ∀ s ∈ signs, s.head? ≠ some 46 := by
  have h : (signs.all fun s => decide (s.head? ≠ some 46)) = true := by decide
  intro s hs
  exact of_decide_eq_true (List.all_eq_true.1 h s hs)
theorem next_zero (l : Bs) (h : (next l).1 = 0) : (next l).2 = [] := by
  cases l with
  | nil => rfl
  | cons c r =>
    cases hl : isLetter c with
    | true => rw [next_letter hl] at h; dsimp only at h; split at h <;> cases h
    | false =>
      by_cases hn : numN (c :: r) > 0
      · rw [next_digits hl hn] at h; cases h
      · rw [next_else hl hn] at h ⊢
        cases hs : signAt (c :: r) with
        | none => rfl
        | some s => rw [hs] at h; cases h
theorem good_first {t : T} (h : Good t) (h5 : t.k ≠ 5) : ∃ d q, t.t = d :: q ∧ d ≠ 46 ∧ isBlank d = false ∧ d ≠ 35 ∧ t.k ≠ 0 ∧
    ((isLetter d = true ∧ t.t.takeWhile isIn = t.t) ∨ (isLetter d = false ∧ isDigit d = true ∧ numN t.t = t.t.length) ∨ (isLetter d = false ∧ isDigit d = false ∧ t.t ∈ signs)) := by
  rcases h with h | ⟨_, hne, hg⟩
  · exact absurd h.1 h5
  · have hk0 : t.k ≠ 0 := by
      intro h0
      have h1 : (next t.t).1 = 0 := by rw [hg]; exact h0
      have h2 := next_zero _ h1
      rw [hg] at h2
      exact hne h2
    cases htt : t.t with
    | nil => exact absurd htt hne
    | cons d q =>
      rw [htt] at hg
      refine ⟨d, q, rfl, ?_⟩
      cases hl : isLetter d with
      | true =>
        rw [next_letter hl] at hg
        injection hg with _ h2
        refine ⟨?_, ?_, ?_, hk0, .inl ⟨rfl, h2⟩⟩
        · rintro rfl; revert hl; decide
        · cases hb : isBlank d with
          | false => rfl
          | true =>
            unfold isBlank at hb
            simp only [Bool.or_eq_true, beq_iff_eq] at hb
            rcases hb with rfl | rfl | rfl <;> revert hl <;> decide
        · rintro rfl; revert hl; decide
      | false =>
        by_cases hn : numN (d :: q) > 0
        · have hdg := numN_digit hn
          rw [next_digits hl hn] at hg
          injection hg with _ h2
          have h3 := congrArg List.length h2
          rw [List.length_take] at h3
          have h4 := numN_le (d :: q)
          refine ⟨?_, ?_, ?_, hk0, .inr (.inl ⟨rfl, hdg, by omega⟩)⟩
          · rintro rfl; revert hdg; decide
          · cases hb : isBlank d with
            | false => rfl
            | true =>
              unfold isBlank at hb
              simp only [Bool.or_eq_true, beq_iff_eq] at hb
              rcases hb with rfl | rfl | rfl <;> revert hdg <;> decide
          · rintro rfl; revert hdg; decide
        · rw [next_else hl hn] at hg
          cases hs : signAt (d :: q) with
          | none => rw [hs] at hg; injection hg with _ h2; cases h2
          | some s =>
            rw [hs] at hg
            injection hg with _ h2
            have h3 := signAt_some hs
            have h4 := signAt_first hs
            rw [h2] at h3
            refine ⟨?_, h4.2.2.2.1, h4.2.2.2.2, hk0, .inr (.inr ⟨rfl, h4.2.2.1, h3.1⟩)⟩
            rintro rfl
            exact signs_dot _ h3.1 rfl
def goesOn (t : Bs) (c : UInt8) : Bool := if hd isLetter t = true then isIn c else if hd isDigit t = true then isDigit c else decide ((next (t ++ [c])).2.length ≠ t.length)
theorem look {t : T} (h : Good t) (h5 : t.k ≠ 5) {c : UInt8} (hc : c ≠ 46) (r : Bs) : (next (t.t ++ c :: r)).2.length = t.t.length ↔ goesOn t.t c = false := by
  obtain ⟨d, q, htt, _, _, _, _, h3 | h3 | h3⟩ := good_first h h5
  · obtain ⟨hl, hw⟩ := h3
    have hall : ∀ e ∈ t.t, isIn e = true := by rw [← hw]; exact tw_mem t.t
    have hn : (next (t.t ++ c :: r)).2 = t.t ++ (c :: r : Bs).takeWhile isIn := by
      rw [← List.takeWhile_append_of_pos hall, htt, List.cons_append, next_letter hl]
    have hg : goesOn t.t c = isIn c := by unfold goesOn; rw [htt, if_pos (show hd isLetter (d :: q) = true from hl)]
    rw [hn, hg, List.length_append]
    cases hi : isIn c with
    | true => rw [List.takeWhile_cons, hi, if_pos rfl, List.length_cons]; exact ⟨fun x => absurd x (by omega), fun x => by cases x⟩
    | false => rw [List.takeWhile_cons, hi]; exact ⟨fun _ => rfl, fun _ => rfl⟩
  · obtain ⟨hl, hdg, hnn⟩ := h3
    have hg : goesOn t.t c = isDigit c := by
      unfold goesOn
      rw [htt, if_neg (by rw [hd_cons, hl]; decide), if_pos (show hd isDigit (d :: q) = true from hdg)]
    have hpos : numN (t.t ++ c :: r) > 0 := by
      have h6 := numN_ge (t.t ++ c :: r)
      rw [htt, List.cons_append] at h6 ⊢
      rw [wl_pos _ hdg] at h6
      omega
    have hn : (next (t.t ++ c :: r)).2.length = numN (t.t ++ c :: r) := by
      have hle := numN_le (t.t ++ c :: r)
      rw [htt, List.cons_append] at hpos hle ⊢
      rw [next_digits hl hpos]
      dsimp only
      rw [List.length_take]
      omega
    rw [hn, hg]
    exact numN_look hnn hc r
  · obtain ⟨hl, hdg, hs⟩ := h3
    have hx : ∀ y : Bs, next (t.t ++ y) = match signAt (t.t ++ y) with | some s => (4, s) | none => (0, []) := by
      intro y
      rw [htt, List.cons_append]
      exact next_else hl (by rw [numN_zero _ hdg]; omega)
    have hn : next (t.t ++ c :: r) = next (t.t ++ [c]) := by
      rw [hx, hx, show t.t ++ c :: r = (t.t ++ [c]) ++ r by rw [List.append_assoc]; rfl, signAt_two _ _ (by rw [htt]; simp)]
    have hg : goesOn t.t c = decide ((next (t.t ++ [c])).2.length ≠ t.t.length) := by
      unfold goesOn
      rw [if_neg (by rw [htt, hd_cons, hl]; decide), if_neg (by rw [htt, hd_cons, hdg]; decide)]
    rw [hn, hg, decide_eq_false_iff_not, Decidable.not_not]
theorem on_space {t : T} (h : Good t) (h5 : t.k ≠ 5) : goesOn t.t 32 = false := by
  obtain ⟨d, q, htt, _, _, _, _, h3 | h3 | h3⟩ := good_first h h5
  · unfold goesOn; rw [htt, if_pos (show hd isLetter (d :: q) = true from h3.1)]; decide
  · unfold goesOn; rw [htt, if_neg (by rw [hd_cons, h3.1]; decide), if_pos (show hd isDigit (d :: q) = true from h3.2.1)]; decide
  · unfold goesOn
    rw [if_neg (by rw [htt, hd_cons, h3.1]; decide), if_neg (by rw [htt, hd_cons, h3.2.1]; decide), signs_spc _ h3.2.2]
    simp
theorem next_fit {t : T} (h : Good t) (h5 : t.k ≠ 5) {c : UInt8} (hc : c ≠ 46) (hg : goesOn t.t c = false) (r : Bs) : next (t.t ++ c :: r) = (t.k, t.t) :=
  kind_same h5 h ((look h h5 hc r).2 hg)
def kt (t : T) : Int × Bs := (t.k, t.t)
def Fine (t : T) : Prop := Good t ∧ t.k ≠ 5 ∧ (t.k = 1 → t.t.length ≤ 24)
theorem outT_cons (la t : T) (ts : List T) (h : t.k ≠ 5) : outT la (t :: ts) = (if apartT la t = true then [32] ++ t.t else t.t) ++ outT t ts := by
  show (if t.k = 5 then outT la ts else (if apartT la t = true then [32] ++ t.t else t.t) ++ outT t ts) = _
  rw [if_neg h]
theorem next_out (t : T) (ht : Fine t) : ∀ ts : List T, (∀ u ∈ ts, Fine u) → next (t.t ++ outT t ts) = (t.k, t.t)
  | [], _ => by
    rw [show outT t [] = [] from rfl, List.append_nil]
    rcases ht.1 with h | h
    · exact absurd h.1 ht.2.1
    · exact h.2.2
  | u :: us, hu => by
    have hf := hu u List.mem_cons_self
    rw [outT_cons t u us hf.2.1]
    obtain ⟨d, q, huu, hd, _⟩ := good_first hf.1 hf.2.1
    cases ha : apartT t u with
    | true =>
      rw [if_pos rfl]
      exact next_fit ht.1 ht.2.1 (by decide) (on_space ht.1 ht.2.1) (u.t ++ outT u us)
    | false =>
      rw [if_neg (by decide)]
      have hlen : (next (t.t ++ u.t)).2.length = t.t.length := by
        unfold apartT at ha
        rw [decide_eq_true ht.2.1, Bool.true_and, decide_eq_false_iff_not, Decidable.not_not] at ha
        exact ha
      rw [huu] at hlen ⊢
      exact next_fit ht.1 ht.2.1 hd ((look ht.1 ht.2.1 hd q).1 hlen) (q ++ outT u us)
theorem scan_out : ∀ (ts : List T), (∀ t ∈ ts, Fine t) → ∀ (la : T) (a : Nat), ∃ us, scanG (outT la ts) a = (us ++ [⟨5, [], a + (outT la ts).length⟩], 0, 0) ∧ us.map kt = ts.map kt
  | [], _, la, a => ⟨[], rfl, rfl⟩
  | t :: ts, h, la, a => by
    have ht := h t List.mem_cons_self
    have hts : ∀ u ∈ ts, Fine u := fun u hu => h u (List.mem_cons_of_mem _ hu)
    rw [outT_cons la t ts ht.2.1]
    have hnx := next_out t ht ts hts
    obtain ⟨d, q, htt, _, hb, h35, hk0, _⟩ := good_first ht.1 ht.2.1
    have hbody : ∀ a' : Nat, ∃ us, scanG (t.t ++ outT t ts) a' = (us ++ [⟨5, [], a' + (t.t ++ outT t ts).length⟩], 0, 0) ∧ us.map kt = (t :: ts).map kt := by
      intro a'
      obtain ⟨us, h1, h2⟩ := scan_out ts hts t (a' + t.t.length)
      have hsk : skip (t.t ++ outT t ts) = t.t ++ outT t ts := by rw [htt, List.cons_append]; exact skip_stay _ hb h35
      have h24 : ¬ (t.t.length > 24 ∧ t.k = 1) := fun x => by have := ht.2.2 x.2; omega
      rw [scanG_eq _ a' hsk (by rw [htt]; simp), hnx]
      dsimp only
      rw [if_neg hk0, if_neg h24, List.drop_left, h1]
      refine ⟨⟨t.k, t.t, a'⟩ :: us, ?_, by rw [List.map_cons, List.map_cons, h2]; rfl⟩
      unfold consT
      rw [if_pos rfl, List.length_append, Nat.add_assoc]
      rfl
    cases ha : apartT la t with
    | true =>
      rw [if_pos rfl]
      obtain ⟨us, h1, h2⟩ := hbody (a + 1)
      refine ⟨us, ?_, h2⟩
      show scanG (32 :: (t.t ++ outT t ts)) a = _
      rw [scanG_blank _ _ (by decide), h1]
      have : a + 1 + (t.t ++ outT t ts).length = a + ([32] ++ t.t ++ outT t ts : Bs).length := by simp only [List.length_append, List.length_cons, List.length_nil]; omega
      rw [this]
    | false =>
      rw [if_neg (by decide)]
      exact hbody a
theorem apartT_congr {a b c d : T} (h : kt a = kt c) (h2 : kt b = kt d) : apartT a b = apartT c d := by
  injection h with h3 h4
  injection h2 with h5 h6
  unfold apartT
  rw [h3, h4, h6]
theorem outT_congr : ∀ (ts us : List T), ts.map kt = us.map kt → ∀ la lb : T, kt la = kt lb → outT la ts = outT lb us
  | [], [], _, _, _, _ => rfl
  | [], _ :: _, h, _, _, _ => by cases h
  | _ :: _, [], h, _, _, _ => by cases h
  | t :: ts, u :: us, h, la, lb, hl => by
    simp only [List.map_cons, List.cons.injEq] at h
    have hk : t.k = u.k := congrArg Prod.fst h.1
    have ht : t.t = u.t := congrArg Prod.snd h.1
    show (if t.k = 5 then outT la ts else (if apartT la t = true then [32] ++ t.t else t.t) ++ outT t ts) = (if u.k = 5 then outT lb us else (if apartT lb u = true then [32] ++ u.t else u.t) ++ outT u us)
    rw [hk, ht, apartT_congr hl h.1, outT_congr ts us h.2 la lb hl, outT_congr ts us h.2 t u h.1]
theorem outT_end (n : Nat) : ∀ (ts : List T) (la : T), outT la (ts ++ [⟨5, [], n⟩]) = outT la ts
  | [], _ => rfl
  | t :: ts, la => by
    show (if t.k = 5 then outT la (ts ++ [⟨5, [], n⟩]) else (if apartT la t = true then [32] ++ t.t else t.t) ++ outT t (ts ++ [⟨5, [], n⟩])) = (if t.k = 5 then outT la ts else (if apartT la t = true then [32] ++ t.t else t.t) ++ outT t ts)
    rw [outT_end n ts la, outT_end n ts t]
theorem outT_size (m : Nat) : ∀ (ts : List T) (la : T), (∀ t ∈ ts, t.t.length ≤ m) → (outT la ts).length ≤ ts.length * (m + 1)
  | [], _, _ => Nat.zero_le _
  | t :: ts, la, h => by
    have h1 := h t List.mem_cons_self
    have h2 := outT_size m ts la (fun u hu => h u (List.mem_cons_of_mem _ hu))
    have h3 := outT_size m ts t (fun u hu => h u (List.mem_cons_of_mem _ hu))
    show (if t.k = 5 then outT la ts else (if apartT la t = true then [32] ++ t.t else t.t) ++ outT t ts).length ≤ _
    rw [List.length_cons, Nat.succ_mul]
    split
    · omega
    · rw [List.length_append]
      split
      · rw [List.length_append]; simp only [List.length_cons, List.length_nil]; omega
      · omega
theorem strip_le : ∀ (n : Nat) (l : Bs) (a : Nat) (la : T), l.length < n → (scanF n l a).2.2 = 0 → (la.k = 5 ∨ (Good la ∧ next (la.t ++ l) = (la.k, la.t))) → (outT la (scanF n l a).1).length ≤ l.length
  | 0, _, _, _, h, _, _ => absurd h (Nat.not_lt_zero _)
  | n + 1, l, a, la, h, he, hla => by
    have hsl := skip_le l
    have hsd := skip_drop l
    rw [scanF_eq] at he ⊢
    by_cases h1 : skip l = []
    · rw [if_pos h1]; exact Nat.zero_le _
    · rw [if_neg h1] at he ⊢
      by_cases h2 : (next (skip l)).1 = 0
      · rw [if_pos h2] at he; exact absurd he (show ¬ ((5 : Int) = 0) by decide)
      · rw [if_neg h2] at he ⊢
        by_cases h3 : (next (skip l)).2.length > 24 ∧ (next (skip l)).1 = 1
        · rw [if_pos h3] at he; exact absurd he (show ¬ ((13 : Int) = 0) by decide)
        · rw [if_neg h3] at he ⊢
          have hnt := next_text _ h2
          have hna := next_again _ h2
          obtain ⟨a', ha'⟩ : ∃ a', a' = a + (l.length - (skip l).length) := ⟨_, rfl⟩
          rw [← ha'] at he ⊢
          generalize skip l = q at *
          have hgt : Good ⟨(next q).1, (next q).2, a'⟩ := .inr ⟨hna.2, (by
            intro h0
            have := hnt.2
            dsimp only at h0
            rw [h0] at this
            exact absurd this (by decide)), hna.1⟩
          have hlq : (q.drop (next q).2.length).length + (next q).2.length = q.length := by
            have := congrArg List.length hnt.1
            rw [List.length_append] at this
            omega
          unfold consT at he ⊢
          by_cases h4 : (scanF n (q.drop (next q).2.length) (a' + (next q).2.length)).2.2 = 0
          · rw [if_pos h4]
            have ih := strip_le n (q.drop (next q).2.length) (a' + (next q).2.length) ⟨(next q).1, (next q).2, a'⟩ (by omega) h4
              (.inr ⟨hgt, by dsimp only; rw [← hnt.1]⟩)
            dsimp only
            rw [outT_cons _ _ _ hna.2, List.length_append]
            cases hap : apartT la ⟨(next q).1, (next q).2, a'⟩ with
            | false => rw [if_neg (by decide)]; dsimp only; omega
            | true =>
              rw [if_pos rfl, List.length_append]
              have hlt : q.length < l.length := by
                rcases Nat.lt_or_ge q.length l.length with hx | hx
                · exact hx
                · exfalso
                  have hql : q = l := by rw [← hsd, show l.length - q.length = 0 by omega]; rfl
                  unfold apartT at hap
                  rw [Bool.and_eq_true, decide_eq_true_eq, decide_eq_true_eq] at hap
                  rcases hla with hla | ⟨hlg, hln⟩
                  · exact hap.1 hla
                  · obtain ⟨d, p, htt, hd, _⟩ := good_first hgt hna.2
                    dsimp only at htt
                    have hln2 : (next (la.t ++ d :: (p ++ q.drop (next q).2.length))).2.length = la.t.length := by
                      have : la.t ++ d :: (p ++ q.drop (next q).2.length) = la.t ++ l := by
                        rw [← hql]
                        conv => rhs; rw [hnt.1, htt]
                        rw [htt]
                        rfl
                      rw [this, hln]
                    have h6 := (look hlg hap.1 hd p).2 ((look hlg hap.1 hd _).1 hln2)
                    rw [← htt] at h6
                    exact hap.2 h6
              simp only [List.length_cons, List.length_nil]
              omega
          · rw [if_neg h4] at he
            exact absurd he h4
theorem ord_fine (s : Bs) : ∀ (ts : List T) (a : Nat), Ord s a ts → ∃ us, ts = us ++ [⟨5, [], s.length⟩] ∧ ∀ u ∈ us, Fine u
  | [], _, h => h.elim
  | t :: ts, a, h => by
    rcases h with ⟨_, _, _, hg, h24, ⟨h1, h2, _⟩ | ⟨h5, _, h1⟩⟩
    · exact ⟨[], by rw [h1, h2]; rfl, fun u hu => by cases hu⟩
    · obtain ⟨us, hu, hf⟩ := ord_fine s ts _ h1
      refine ⟨t :: us, by rw [hu]; rfl, fun u hu => ?_⟩
      rcases List.mem_cons.1 hu with rfl | hu
      · exact ⟨hg, h5, h24⟩
      · exact hf u hu
end Go.Proofs.YteobbnehdlcphaaDoor.Tok
namespace Go.Proofs.YteobbnehdlcphaaDoor.P
open Go.RowKit Go.Proofs.YteobbnehdlcphaaDoorW.PrintWords Go.Proofs.YteobbnehdlcphaaDoorW.PrintLast Go.Proofs.YteobbnehdlcphaaDoorW.PrintMore
open Go.Proofs.YteobbnehdlcphaaDoor
attribute [local irreducible] bt
def ks (x : S44) : Int × Tok.Bs := (x.f0, x.f1.data.toList)
theorem ev_told1 (A B : List S44) (hA : A.length ≤ 100000) (h : A.map ks = B.map ks) : ∀ (d i : Nat), A.length - i = d → i ≤ A.length → Ev (fun k => fluxionlaw04_told.l0 k A B (i : Int)) true := by
  have hl : A.length = B.length := by have := congrArg List.length h; simpa using this
  intro d
  induction d with
  | zero =>
    intro i h1 h2
    refine Ev.step (f := fun _ => some true) (fun k => ?_) (Ev.now _)
    simp only [fluxionlaw04_told.l0]
    rw [if_neg (by omega)]
  | succ d ih =>
    intro i h1 h2
    have hi : i < A.length := by omega
    have hi2 : i < B.length := by omega
    have h3 := ih (i + 1) (by omega) (by omega)
    have hrA := rd_at A i hi
    have hrB := rd_at B i hi2
    have hk : ks A[i] = ks B[i] := by
      have h4 := congrArg (fun l => l[i]?) h
      simp only [List.getElem?_map, List.getElem?_eq_getElem hi, List.getElem?_eq_getElem hi2, Option.map_some] at h4
      exact Option.some.inj h4
    have hk0 : A[i].f0 = B[i].f0 := congrArg Prod.fst hk
    have hk1 : A[i].f1.data.toList = B[i].f1.data.toList := congrArg Prod.snd hk
    refine Ev.step (fun k => ?_) h3
    simp only [fluxionlaw04_told.l0]
    rw [if_pos (by omega), if_pos (by omega), if_pos (by omega), hrA, hrB, if_pos hk0, toList_eq, toList_eq, if_pos hk1, w64 (by omega) (by omega)]
    rfl
theorem ev_told (A B : List S44) (hA : A.length ≤ 100000) (h : A.map ks = B.map ks) : Ev (fun k => fluxionlaw04_told.f k A B) true := by
  have hl : A.length = B.length := by have := congrArg List.length h; simpa using this
  obtain ⟨K, e⟩ := ev_told1 A B hA h _ 0 rfl (Nat.zero_le _)
  refine ⟨K, fun k hk => ?_⟩
  show fluxionlaw04_told.f k A B = _
  unfold fluxionlaw04_told.f
  rw [if_pos (by omega)]
  exact e k hk
theorem ks_map (ts : List Tok.T) : (ts.map toS).map ks = ts.map Tok.kt := by rw [List.map_map]; rfl
theorem strip_is (s : ByteArray) : ∃ (ts : List Tok.T) (p e : Int), Ev (fun k => token_Scan.f k s) (ts.map toS, p, e) ∧
    Ev (fun k => token_Strip.f k s) (if e = 0 then (toB (Tok.outT la0 ts), 0) else ((⟨#[]⟩ : ByteArray), e)) ∧
    (e = 0 → ∃ us, ts = us ++ [⟨5, [], s.size⟩] ∧ (∀ u ∈ us, Tok.Fine u) ∧ (Tok.outT la0 ts).length ≤ s.size ∧ s.size ≤ 20000 ∧ ts.length ≤ 20001) := by
  by_cases hs : s.size ≤ 20000
  · obtain ⟨K1, e1⟩ := ev_Scan s hs
    have ho := Tok.scan_ord s.data.toList (s.data.toList.length + 1) 0 (by rw [List.drop_zero]; omega) (Nat.zero_le _)
    have hst := Tok.strip_le (s.data.toList.length + 1) s.data.toList 0 la0 (by omega)
    have hgd := Tok.scan_good (s.data.toList.length + 1) s.data.toList 0
    rw [List.drop_zero] at ho
    have hG : Tok.scanF (s.data.toList.length + 1) s.data.toList 0 = Tok.scanG s.data.toList 0 := rfl
    rw [hG] at ho hst hgd
    dsimp only at e1
    generalize Tok.scanG s.data.toList 0 = A at *
    obtain ⟨ts, p, e⟩ := A
    dsimp only at ho hst hgd
    rw [len_eq] at hst hgd
    unfold res at e1
    dsimp only at e1
    by_cases he : e = 0
    · subst he
      rw [if_pos rfl, List.nil_append] at e1
      obtain ⟨us, hu, hf⟩ := Tok.ord_fine _ _ _ (ho rfl)
      rw [len_eq] at hu
      obtain ⟨K2, e2⟩ := ev_joined ts (by omega) (fun t ht => ⟨(hgd.2 t ht).1, by have := (hgd.2 t ht).2; omega⟩)
      dsimp only at e2
      refine ⟨ts, p, 0, ⟨K1, e1⟩, ⟨K1 + K2, fun k hk => ?_⟩, fun _ => ⟨us, hu, hf, hst rfl (.inl rfl), hs, by omega⟩⟩
      show token_Strip.f k s = _
      unfold token_Strip.f
      refine bind_of (e1 k (by omega)) ?_
      dsimp only
      rw [if_pos rfl, if_pos rfl]
      exact bind_of (e2 k (by omega)) rfl
    · rw [if_neg he] at e1
      refine ⟨[], p, e, ⟨K1, e1⟩, ⟨K1, fun k hk => ?_⟩, fun h => absurd h he⟩
      show token_Strip.f k s = _
      unfold token_Strip.f
      refine bind_of (e1 k (by omega)) ?_
      dsimp only
      rw [if_neg he, if_neg he]
  · refine ⟨[], 0, 3, ⟨0, fun k _ => Scan_long s hs k⟩, ⟨0, fun k _ => ?_⟩, fun h => absurd h (by decide)⟩
    show token_Strip.f k s = _
    unfold token_Strip.f
    refine bind_of (Scan_long s hs k) ?_
    dsimp only
    rw [if_neg (by decide), if_neg (by decide)]
theorem ev_twice (a1 : ByteArray) : Ev (fun k => fluxionlaw04_TokenJoined.j1 k a1 false) true := by
  obtain ⟨s, hs, hsz⟩ := short_f a1
  obtain ⟨ts, p, e, ⟨K1, e1⟩, ⟨K2, e2⟩, hok⟩ := strip_is s
  obtain ⟨K3, e3⟩ := ev_alive
  dsimp only at e1 e2 e3
  by_cases he : e = 0
  · subst he
    rw [if_pos rfl] at e2
    obtain ⟨us, hts, hfine, hle, hsm, hn⟩ := hok rfl
    obtain ⟨vs, hsc, hkt⟩ := Tok.scan_out us hfine la0 0
    have hout : Tok.outT la0 ts = Tok.outT la0 us := by rw [hts, Tok.outT_end]
    obtain ⟨x, hx⟩ : ∃ x, x = toB (Tok.outT la0 ts) := ⟨_, rfl⟩
    have hxl : x.data.toList = Tok.outT la0 us := by rw [hx, toB_list, hout]
    have hxs : x.size = (Tok.outT la0 ts).length := by rw [hx, toB_size]
    rw [← hx] at e2
    obtain ⟨K4, e4⟩ := ev_Scan x (by omega)
    dsimp only at e4
    rw [hxl, hsc] at e4
    unfold res at e4
    dsimp only at e4
    rw [if_pos rfl, List.nil_append] at e4
    have hgood := Tok.scan_good (x.data.toList.length + 1) x.data.toList 0
    have hG : Tok.scanF (x.data.toList.length + 1) x.data.toList 0 = Tok.scanG x.data.toList 0 := rfl
    rw [hG, hxl, hsc] at hgood
    dsimp only at hgood
    have hul : (Tok.outT la0 us).length = x.size := by rw [← hxl, len_eq]
    have hul2 : (Tok.outT la0 us).length = (Tok.outT la0 ts).length := by rw [hout]
    generalize hend : (⟨5, [], 0 + (Tok.outT la0 us).length⟩ : Tok.T) = en at *
    have hjo : Tok.outT la0 (vs ++ [en]) = Tok.outT la0 us := by rw [← hend, Tok.outT_end, Tok.outT_congr vs us hkt la0 la0 rfl]
    obtain ⟨K5, e5⟩ := ev_joined (vs ++ [en]) (by omega) (fun t ht => ⟨(hgood.2 t ht).1, by have := (hgood.2 t ht).2; omega⟩)
    dsimp only at e5
    rw [hjo, ← hout, ← hx] at e5
    have hstr : ∀ k, K4 + K5 ≤ k → token_Strip.f k x = some (x, 0) := by
      intro k hk
      unfold token_Strip.f
      refine bind_of (e4 k (by omega)) ?_
      dsimp only
      rw [if_pos rfl]
      exact bind_of (e5 k (by omega)) rfl
    obtain ⟨K6, e6⟩ := ev_told (ts.map toS) ((vs ++ [en]).map toS) (by rw [List.length_map]; omega) (by
      rw [ks_map, ks_map, hts, List.map_append, List.map_append, hkt, ← hend]; rfl)
    dsimp only at e6
    refine ⟨K1 + K2 + K3 + K4 + K5 + K6 + 1, fun k hk => ?_⟩
    obtain ⟨m, rfl⟩ : ∃ m, k = m + 1 := ⟨k - 1, by omega⟩
    simp only [fluxionlaw04_TokenJoined.j1]
    rw [if_neg (by decide)]
    refine bind_of hs ?_
    refine bind_of (e2 m (by omega)) ?_
    rw [if_pos rfl]
    refine bind_of (hstr m (by omega)) ?_
    refine bind_of (e1 m (by omega)) ?_
    refine bind_of (e4 m (by omega)) ?_
    dsimp only
    rw [if_pos rfl, if_pos rfl, if_pos (by omega), if_pos rfl, if_pos rfl]
    refine bind_of (e6 m (by omega)) ?_
    rw [if_pos rfl]
    exact bind_of (e3 m (by omega)) rfl
  · rw [if_neg he] at e2
    refine ⟨K1 + K2 + K3 + 1, fun k hk => ?_⟩
    obtain ⟨m, rfl⟩ : ∃ m, k = m + 1 := ⟨k - 1, by omega⟩
    simp only [fluxionlaw04_TokenJoined.j1]
    rw [if_neg (by decide)]
    refine bind_of hs ?_
    refine bind_of (e2 m (by omega)) ?_
    dsimp only
    rw [if_neg he]
    refine bind_of (e1 m (by omega)) ?_
    rw [if_pos rfl]
    exact bind_of (e3 m (by omega)) rfl
def Pick (x : S44) : Prop := Tok.formT (ofS x) = true ∧ x.f0 ≠ 5 ∧ x.f1.size < 90
theorem pick_fine {x : S44} (h : Pick x) : Tok.Fine (ofS x) := ⟨(Tok.form_good _ h.1).1, h.2.1, (Tok.form_good _ h.1).2⟩
theorem ev_chosen (a1 : ByteArray) (all acc : List S44) (hn : acc.length ≤ 200) (hp : ∀ x ∈ acc, Pick x) (i : Nat) (hi : all.length ≤ i) :
    Ev (fun k => fluxionlaw04_TokenJoined.l0 k a1 acc all (i : Int)) true := by
  have hs : ∀ x ∈ acc, x.f1.size ≤ 300 := fun x hx => by have := (hp x hx).2.2; omega
  obtain ⟨K1, e1⟩ := ev_Join acc (by omega) hs
  dsimp only at e1
  have hsize : (Tok.outT la0 (acc.map ofS)).length ≤ 20000 := by
    have h1 := Tok.outT_size 90 (acc.map ofS) la0 (fun t ht => by
      obtain ⟨x, hx, rfl⟩ := List.mem_map.1 ht
      rw [ofS_len]
      have := (hp x hx).2.2
      omega)
    rw [List.length_map] at h1
    omega
  have hany : acc.any badS = false := by
    rw [List.any_eq_false]
    intro x hx
    unfold badS
    rw [(hp x hx).1]
    decide
  have hj : joinS acc = (toB (Tok.outT la0 (acc.map ofS)), 0) := by
    unfold joinS
    rw [if_neg (by omega), hany, if_neg (by decide), if_neg (by omega)]
  rw [hj] at e1
  obtain ⟨vs, hsc, hkt⟩ := Tok.scan_out (acc.map ofS) (fun t ht => by
    obtain ⟨x, hx, rfl⟩ := List.mem_map.1 ht
    exact pick_fine (hp x hx)) la0 0
  have hvl : vs.length = acc.length := by have := congrArg List.length hkt; simpa using this
  obtain ⟨K2, e2⟩ := ev_Scan (toB (Tok.outT la0 (acc.map ofS))) (by rw [toB_size]; exact hsize)
  dsimp only at e2
  rw [toB_list, hsc] at e2
  unfold res at e2
  dsimp only at e2
  rw [if_pos rfl, List.nil_append] at e2
  obtain ⟨K3, e3⟩ := ev_told ((vs ++ [(⟨5, [], 0 + (Tok.outT la0 (acc.map ofS)).length⟩ : Tok.T)]).map toS) (acc ++ [(⟨5, (⟨#[]⟩ : ByteArray), 0⟩ : S44)])
    (by rw [List.length_map, List.length_append]; simp only [List.length_cons, List.length_nil]; omega) (by
      rw [ks_map, List.map_append, List.map_append, hkt, List.map_map]; rfl)
  obtain ⟨K4, e4⟩ := ev_twice a1
  dsimp only at e3 e4
  refine ⟨K1 + K2 + K3 + K4 + 1, fun k hk => ?_⟩
  obtain ⟨m, rfl⟩ : ∃ m, k = m + 1 := ⟨k - 1, by omega⟩
  simp only [fluxionlaw04_TokenJoined.l0]
  rw [if_neg (by omega)]
  refine bind_of (e1 m (by omega)) ?_
  rw [if_pos rfl]
  refine bind_of (e2 m (by omega)) ?_
  dsimp only
  rw [if_pos rfl, if_pos (by omega)]
  refine bind_of (e3 m (by omega)) ?_
  exact e4 m (by omega)
theorem ev_choose (a1 : ByteArray) (all : List S44) (hall : all.length ≤ 200) (hs : ∀ x ∈ all, x.f1.size ≤ 300) : ∀ (d i : Nat) (acc : List S44), all.length - i = d → i ≤ all.length → acc.length ≤ i → (∀ x ∈ acc, Pick x) →
    Ev (fun k => fluxionlaw04_TokenJoined.l0 k a1 acc all (i : Int)) true := by
  intro d
  induction d with
  | zero => intro i acc h1 h2 h3 h4; exact ev_chosen a1 all acc (by omega) h4 i (by omega)
  | succ d ih =>
    intro i acc h1 h2 h3 h4
    have hi : i < all.length := by omega
    have hrd := rd_at all i hi
    have hlt := hs all[i] (List.getElem_mem hi)
    generalize all[i] = x at *
    obtain ⟨K1, e1⟩ := ev_rGood x (by omega)
    obtain ⟨K2, e2⟩ := ih (i + 1) acc (by omega) (by omega) (by omega) h4
    dsimp only at e1 e2
    have w1 : Aside0 (wrap64 ((i : Int) + 1) = ((i + 1 : Nat) : Int)) := ⟨by rw [w64 (by omega) (by omega)]; rfl⟩
    by_cases hp : Pick x
    · obtain ⟨K3, e3⟩ := ih (i + 1) (acc ++ [x]) (by omega) (by omega) (by simp only [List.length_append, List.length_cons, List.length_nil]; omega) (fun y hy => by
        rcases List.mem_append.1 hy with hy | hy
        · exact h4 y hy
        · rw [List.mem_singleton] at hy; rw [hy]; exact hp)
      dsimp only at e3
      refine ⟨K1 + K3 + 1, fun k hk => ?_⟩
      obtain ⟨m, rfl⟩ : ∃ m, k = m + 1 := ⟨k - 1, by omega⟩
      have hsz := hp.2.2
      simp only [fluxionlaw04_TokenJoined.l0]
      rw [if_pos (by omega), if_pos (by omega), hrd]
      refine bind_of (e1 m (by omega)) ?_
      rw [if_pos hp.1, if_neg hp.2.1, if_pos (by omega), if_pos (by omega), w1.out]
      exact e3 m (by omega)
    · refine ⟨K1 + K2 + 1, fun k hk => ?_⟩
      obtain ⟨m, rfl⟩ : ∃ m, k = m + 1 := ⟨k - 1, by omega⟩
      have g2 := e2 m (by omega)
      simp only [fluxionlaw04_TokenJoined.l0]
      rw [if_pos (by omega), if_pos (by omega), hrd, w1.out]
      refine bind_of (e1 m (by omega)) ?_
      by_cases h5 : Tok.formT (ofS x) = true
      · rw [if_pos h5]
        by_cases h6 : x.f0 = 5
        · rw [if_pos h6]; exact g2
        · rw [if_neg h6]
          by_cases h7 : (x.f1.size : Int) < 90
          · exact absurd ⟨h5, h6, by omega⟩ hp
          · rw [if_neg h7]; exact g2
      · rw [if_neg h5]; exact g2
theorem tokenJoined_all (l : List S44) (a1 : ByteArray) : ∃ k, fluxionlaw04_TokenJoined.f k l a1 = some true := by
  obtain ⟨K1, e1⟩ := ev_cut l 200 (by decide)
  dsimp only at e1
  have hone : ((l.take 200).map cutS).length ≤ 200 := by rw [List.length_map, List.length_take]; omega
  have hs : ∀ x ∈ (l.take 200).map cutS, x.f1.size ≤ 300 := by
    intro x hx
    obtain ⟨y, _, rfl⟩ := List.mem_map.1 hx
    exact cutS_size y
  obtain ⟨K2, e2⟩ := ev_choose a1 _ hone hs _ 0 [] rfl (Nat.zero_le _) (Nat.zero_le _) (fun x h => by cases h)
  dsimp only at e2
  refine ⟨K1 + K2, ?_⟩
  unfold fluxionlaw04_TokenJoined.f
  exact bind_of (e1 _ (by omega)) (e2 _ (by omega))
end Go.Proofs.YteobbnehdlcphaaDoor.P

