import Derived.Test.YteobbnehdlcphaaDoorQPP14T
import Derived.Test.YteobbnehdlcphaaDoorQPTE
namespace Go.Proofs.YteobbnehdlcphaaDoor.Tok
theorem tw_app {p : UInt8 → Bool} {c : UInt8} (h : p c = false) (r : Bs) : ∀ l : Bs, (l ++ c :: r).takeWhile p = l.takeWhile p
  | [] => by simp [h]
  | d :: l => by
    cases hd : p d
    · simp [hd]
    · simp [hd, tw_app h r l]
theorem wl_app {p : UInt8 → Bool} {c : UInt8} (h : p c = false) (r l : Bs) : wl p (l ++ c :: r) = wl p l := by
  unfold wl; rw [tw_app h]
theorem dw_app {p : UInt8 → Bool} {c : UInt8} (h : p c = false) (r : Bs) : ∀ l : Bs, (l ++ c :: r).dropWhile p = l.dropWhile p ++ c :: r
  | [] => by simp [h]
  | d :: l => by
    cases hd : p d
    · simp [hd]
    · simp [hd, dw_app h r l]
theorem dw_all {p : UInt8 → Bool} (r : Bs) : ∀ l : Bs, l.dropWhile p = [] → (l ++ r).dropWhile p = r.dropWhile p
  | [], _ => rfl
  | d :: l, h => by
    cases hd : p d
    · simp [hd] at h
    · simp only [List.dropWhile_cons, hd, if_true] at h
      simp only [List.cons_append, List.dropWhile_cons, hd, if_true]
      exact dw_all r l h
theorem dw_some {p : UInt8 → Bool} (r : Bs) {c : UInt8} {q : Bs} : ∀ l : Bs, l.dropWhile p = c :: q → (l ++ r).dropWhile p = c :: q ++ r
  | [], h => by cases h
  | d :: l, h => by
    cases hd : p d
    · simp only [List.dropWhile_cons, hd] at h
      simp only [List.cons_append, List.dropWhile_cons, hd]
      have h2 : d :: l = c :: q := h
      injection h2 with h3 h4
      subst h3; subst h4; rfl
    · simp only [List.dropWhile_cons, hd, if_true] at h
      simp only [List.cons_append, List.dropWhile_cons, hd, if_true]
      exact dw_some r l h
theorem skip_head : ∀ (n : Nat) (l : Bs), l.length ≤ n → ∀ c q, skip l = c :: q → isBlank c = false ∧ c ≠ 35 := by
  intro n
  induction n with
  | zero => intro l h c q hs; have : l = [] := List.eq_nil_of_length_eq_zero (by omega); subst this; cases hs
  | succ n ih =>
    intro l h c q hs
    rw [skip_eq] at hs
    have h1 := dropWhile_length isBlank l
    cases hb : l.dropWhile isBlank with
    | nil => rw [hb] at hs; cases hs
    | cons d r =>
      rw [hb] at hs h1
      by_cases hc : d = 35
      · subst hc
        simp only [if_true] at hs
        have h2 := rem_drops r
        rw [List.length_cons] at h1
        exact ih _ (by omega) c q hs
      · simp only [if_neg hc] at hs
        injection hs with h3 h4
        subst h3
        refine ⟨?_, hc⟩
        cases hbd : isBlank d with
        | false => rfl
        | true =>
          have := List.head?_dropWhile_not isBlank l
          rw [hb] at this
          simp [hbd] at this
theorem skip_skip (l : Bs) : skip (skip l) = skip l := by
  cases h : skip l with
  | nil => rfl
  | cons c q =>
    obtain ⟨h1, h2⟩ := skip_head l.length l (Nat.le_refl _) c q h
    exact skip_stay q h1 h2
theorem skip_app (r : Bs) : ∀ (n : Nat) (l : Bs), l.length ≤ n → skip (l ++ 10 :: r) = if skip l = [] then skip r else skip l ++ 10 :: r := by
  have hbase : ∀ l : Bs, l.dropWhile isBlank = [] → skip (l ++ 10 :: r) = if skip l = [] then skip r else skip l ++ 10 :: r := by
    intro l hb
    have h0 : skip l = [] := by rw [skip_eq, hb]
    rw [if_pos h0, skip_eq (l ++ 10 :: r), dw_all _ _ hb, skip_eq r]
    have : (10 :: r : Bs).dropWhile isBlank = r.dropWhile isBlank := by rw [List.dropWhile_cons, show isBlank 10 = true from by decide]; rfl
    rw [this]
  intro n
  induction n with
  | zero =>
    intro l h
    have : l = [] := List.eq_nil_of_length_eq_zero (by omega)
    subst this
    exact hbase [] rfl
  | succ n ih =>
    intro l h
    have h1 := dropWhile_length isBlank l
    cases hb : l.dropWhile isBlank with
    | nil => exact hbase l hb
    | cons c q =>
      rw [hb] at h1
      rw [skip_eq (l ++ 10 :: r), dw_some _ _ hb, skip_eq l, hb]
      simp only [List.cons_append]
      by_cases hc : c = 35
      · subst hc
        simp only [if_true]
        have h2 := rem_drops q
        rw [List.length_cons] at h1
        have h3 : (35 :: (q ++ 10 :: r) : Bs).dropWhile isRem = (35 :: q : Bs).dropWhile isRem ++ 10 :: r := dw_app (by decide) r (35 :: q)
        rw [h3]
        exact ih _ (by omega)
      · simp only [if_neg hc]
        rw [if_neg (by simp)]
        rfl
theorem prefix_app (r : Bs) : ∀ (s l : Bs), (10 : UInt8) ∉ s → s.isPrefixOf (l ++ 10 :: r) = s.isPrefixOf l
  | [], l, _ => by cases l <;> rfl
  | c :: s, [], h => by
    have : c ≠ 10 := fun e => h (by rw [e]; exact List.mem_cons_self)
    show ((c == 10) && s.isPrefixOf r) = false
    rw [beq_eq_false_iff_ne.2 this, Bool.false_and]
  | c :: s, d :: l, h => by
    show ((c == d) && s.isPrefixOf (l ++ 10 :: r)) = ((c == d) && s.isPrefixOf l)
    rw [prefix_app r s l (fun e => h (List.mem_cons_of_mem _ e))]
theorem signs_feed : ∀ s ∈ signs, (10 : UInt8) ∉ s := by
  have h : (signs.all fun s => decide ((10 : UInt8) ∉ s)) = true := by decide
  intro s hs
  exact of_decide_eq_true (List.all_eq_true.1 h s hs)
theorem find_congr {α : Type} {p q : α → Bool} : ∀ l : List α, (∀ x ∈ l, p x = q x) → l.find? p = l.find? q
  | [], _ => rfl
  | x :: l, h => by
    rw [List.find?_cons, List.find?_cons, h x List.mem_cons_self, find_congr l (fun y hy => h y (List.mem_cons_of_mem _ hy))]
theorem signAt_app (l r : Bs) : signAt (l ++ 10 :: r) = signAt l :=
  find_congr _ (fun s hs => prefix_app r s l (signs_feed s hs))
theorem numN_app (l r : Bs) : numN (l ++ 10 :: r) = numN l := by
  unfold numN
  rw [wl_app (by decide)]
  have hle := wl_le isDigit l
  rcases Nat.lt_or_ge (wl isDigit l) l.length with h | h
  · rw [List.getElem?_append_left h, List.drop_append_of_le_length (by omega), wl_app (by decide)]
  · have he : wl isDigit l = l.length := by omega
    have h1 : (l ++ 10 :: r)[wl isDigit l]? = some 10 := by rw [he, List.getElem?_append_right (Nat.le_refl _), Nat.sub_self]; rfl
    have h2 : l[wl isDigit l]? = none := by rw [List.getElem?_eq_none_iff]; omega
    rw [h1, h2, if_neg (fun x => absurd x.2.1 (by decide)), if_neg (fun x => by cases x.2.1)]
theorem next_app (r : Bs) : ∀ l : Bs, l ≠ [] → next (l ++ 10 :: r) = next l
  | [], h => absurd rfl h
  | c :: q, _ => by
    have hn := numN_app (c :: q) r
    have hle := numN_le (c :: q)
    rw [List.cons_append] at *
    cases hl : isLetter c with
    | true =>
      rw [next_letter hl, next_letter hl]
      have := tw_app (p := isIn) (c := 10) (by decide) r (c :: q)
      rw [List.cons_append] at this
      rw [this]
    | false =>
      by_cases h0 : numN (c :: q) > 0
      · rw [next_digits hl h0, next_digits hl (by rw [hn]; exact h0), hn]
        have : (c :: (q ++ 10 :: r) : Bs).take (numN (c :: q)) = (c :: q : Bs).take (numN (c :: q)) := by
          have := List.take_append_of_le_length (l₂ := 10 :: r) hle
          rw [List.cons_append] at this
          exact this
        rw [this]
      · rw [next_else hl h0, next_else hl (by rw [hn]; exact h0)]
        have := signAt_app (c :: q) r
        rw [List.cons_append] at this
        rw [this]
def consAll (ts : List T) (x : List T × Int × Int) : List T × Int × Int := if x.2.2 = 0 then (ts ++ x.1, x.2.1, 0) else ([], x.2.1, x.2.2)
theorem consAll_nil (x : List T × Int × Int) (h : x.2.2 ≠ 0 → x.1 = []) : consAll [] x = x := by
  obtain ⟨ts, p, e⟩ := x
  unfold consAll
  by_cases h0 : e = 0
  · subst h0; rfl
  · rw [if_neg h0, ← h h0]
theorem consAll_cons (t : T) (ts : List T) (x : List T × Int × Int) : consT t (consAll ts x) = consAll (t :: ts) x := by
  unfold consT consAll
  by_cases h0 : x.2.2 = 0
  · simp only [if_pos h0, if_true, List.cons_append]
  · simp only [if_neg h0]
theorem scan_empty : ∀ (n : Nat) (l : Bs) (a : Nat), (scanF n l a).2.2 ≠ 0 → (scanF n l a).1 = []
  | 0, l, a, _ => rfl
  | n + 1, l, a, h => by
    rw [scanF_eq] at h ⊢
    split
    · rename_i h1; rw [if_pos h1] at h; exact absurd rfl h
    · split
      · rfl
      · split
        · rfl
        · rename_i h1 h2 h3
          rw [if_neg h1, if_neg h2, if_neg h3] at h
          unfold consT at h ⊢
          split
          · rename_i h4; rw [if_pos h4] at h; exact absurd rfl h
          · rfl
theorem scan_parts (r : Bs) : ∀ (n : Nat) (l : Bs) (a : Nat), l.length ≤ n →
    ((scanG l a).2.2 ≠ 0 → (scanG (l ++ 10 :: r) a).2.2 = (scanG l a).2.2) ∧
    ((scanG l a).2.2 = 0 → ∃ ts, (scanG l a).1 = ts ++ [⟨5, [], a + l.length⟩] ∧ scanG (l ++ 10 :: r) a = consAll ts (scanG r (a + l.length + 1))) := by
  intro n
  induction n with
  | zero =>
    intro l a h
    have : l = [] := List.eq_nil_of_length_eq_zero (by omega)
    subst this
    refine ⟨fun h => absurd rfl h, fun _ => ⟨[], rfl, ?_⟩⟩
    rw [consAll_nil (scanG r _) (scan_empty _ _ _)]
    exact scanG_skip (by rw [skip_app r 0 [] (Nat.le_refl _)]; rfl) (by simp only [List.nil_append, List.length_cons, List.length_nil]; omega)
  | succ n ih =>
    intro l a h
    have hsk := skip_app r l.length l (Nat.le_refl _)
    have hle := skip_le l
    by_cases h0 : skip l = []
    · have h1 : scanG l a = ([⟨5, [], a + l.length⟩], 0, 0) := by
        show scanF (l.length + 1) l a = _
        rw [scanF_eq, if_pos h0]
      rw [h1]
      refine ⟨fun h => absurd rfl h, fun _ => ⟨[], rfl, ?_⟩⟩
      rw [consAll_nil (scanG r _) (scan_empty _ _ _)]
      exact scanG_skip (by rw [hsk, if_pos h0]) (by simp only [List.length_append, List.length_cons]; omega)
    · rw [if_neg h0] at hsk
      obtain ⟨a', ha'⟩ : ∃ a', a' = a + (l.length - (skip l).length) := ⟨_, rfl⟩
      have hss := skip_skip l
      have e1 : scanG l a = scanG (skip l) a' := scanG_skip hss.symm (by omega)
      have e2 : scanG (l ++ 10 :: r) a = scanG (skip l ++ 10 :: r) a' := scanG_skip (by
        rw [hsk, skip_app r (skip l).length (skip l) (Nat.le_refl _), hss, if_neg h0]) (by simp only [List.length_append, List.length_cons]; omega)
      have hlen : a + l.length = a' + (skip l).length := by omega
      rw [e1, e2, hlen]
      have hss2 : skip (skip l ++ 10 :: r) = skip l ++ 10 :: r := by rw [skip_app r (skip l).length (skip l) (Nat.le_refl _), hss, if_neg h0]
      generalize skip l = l' at *
      rw [scanG_eq l' a' hss h0, scanG_eq (l' ++ 10 :: r) a' hss2 (by simp), next_app r l' h0]
      by_cases h2 : (next l').1 = 0
      · rw [if_pos h2, if_pos h2]
        exact ⟨fun _ => rfl, fun h => absurd h (show ¬ ((5 : Int) = 0) by decide)⟩
      · rw [if_neg h2, if_neg h2]
        by_cases h3 : (next l').2.length > 24 ∧ (next l').1 = 1
        · rw [if_pos h3, if_pos h3]
          exact ⟨fun _ => rfl, fun h => absurd h (show ¬ ((13 : Int) = 0) by decide)⟩
        · rw [if_neg h3, if_neg h3]
          have hnt := next_text l' h2
          have hnl := next_len_le l'
          rw [List.drop_append_of_le_length hnl]
          have hd : (l'.drop (next l').2.length).length = l'.length - (next l').2.length := List.length_drop
          obtain ⟨ih1, ih2⟩ := ih (l'.drop (next l').2.length) (a' + (next l').2.length) (by omega)
          have hpos : a' + (next l').2.length + (l'.drop (next l').2.length).length = a' + l'.length := by omega
          rw [hpos] at ih2
          by_cases he : (scanG (l'.drop (next l').2.length) (a' + (next l').2.length)).2.2 = 0
          · obtain ⟨ts, h4, h5⟩ := ih2 he
            rw [h5, consAll_cons]
            refine ⟨fun h => ?_, fun _ => ⟨⟨(next l').1, (next l').2, a'⟩ :: ts, ?_, rfl⟩⟩
            · unfold consT at h; rw [if_pos he] at h; exact absurd rfl h
            · unfold consT; rw [if_pos he]; dsimp only; rw [h4]; rfl
          · have h6 := ih1 he
            have hx : ∀ (t : T) (x : List T × Int × Int), (consT t x).2.2 = x.2.2 := by
              intro t x; unfold consT; split
              · rename_i h; exact h.symm
              · rfl
            rw [hx, hx, h6]
            exact ⟨fun _ => rfl, fun h => absurd h he⟩
def shiftT (b : Nat) (t : T) : T := ⟨t.k, t.t, t.a + b⟩
theorem scan_shift (b : Nat) : ∀ (n : Nat) (l : Bs) (a : Nat), (scanF n l (a + b)).1 = (scanF n l a).1.map (shiftT b) ∧ (scanF n l (a + b)).2.2 = (scanF n l a).2.2
  | 0, l, a => ⟨rfl, rfl⟩
  | n + 1, l, a => by
    rw [scanF_eq, scanF_eq]
    by_cases h1 : skip l = []
    · rw [if_pos h1, if_pos h1]
      refine ⟨?_, rfl⟩
      simp only [List.map_cons, List.map_nil, shiftT, List.cons.injEq, T.mk.injEq, and_true, true_and]
      omega
    · rw [if_neg h1, if_neg h1]
      by_cases h2 : (next (skip l)).1 = 0
      · rw [if_pos h2, if_pos h2]; exact ⟨rfl, rfl⟩
      · rw [if_neg h2, if_neg h2]
        by_cases h3 : (next (skip l)).2.length > 24 ∧ (next (skip l)).1 = 1
        · rw [if_pos h3, if_pos h3]; exact ⟨rfl, rfl⟩
        · rw [if_neg h3, if_neg h3]
          have ih := scan_shift b n ((skip l).drop (next (skip l)).2.length) (a + (l.length - (skip l).length) + (next (skip l)).2.length)
          have hp : a + b + (l.length - (skip l).length) + (next (skip l)).2.length = a + (l.length - (skip l).length) + (next (skip l)).2.length + b := by omega
          have hp2 : a + b + (l.length - (skip l).length) = a + (l.length - (skip l).length) + b := by omega
          rw [hp, hp2]
          unfold consT
          rw [ih.1, ih.2]
          split
          · exact ⟨rfl, rfl⟩
          · exact ⟨rfl, rfl⟩
end Go.Proofs.YteobbnehdlcphaaDoor.Tok
namespace Go.Proofs.YteobbnehdlcphaaDoor.Tok
theorem scan_pos : ∀ (n : Nat) (l : Bs) (a : Nat), ∀ t ∈ (scanF n l a).1, a ≤ t.a ∧ t.a + t.t.length ≤ a + l.length
  | 0, l, a, t, h => by cases h
  | n + 1, l, a, t, h => by
    have hsl := skip_le l
    rw [scanF_eq] at h
    by_cases h1 : skip l = []
    · rw [if_pos h1] at h
      simp only [List.mem_singleton] at h
      subst h
      exact ⟨Nat.le_add_right _ _, Nat.le_refl _⟩
    · rw [if_neg h1] at h
      by_cases h2 : (next (skip l)).1 = 0
      · rw [if_pos h2] at h; cases h
      · rw [if_neg h2] at h
        by_cases h3 : (next (skip l)).2.length > 24 ∧ (next (skip l)).1 = 1
        · rw [if_pos h3] at h; cases h
        · rw [if_neg h3] at h
          have hnl := next_len_le (skip l)
          have ih := scan_pos n ((skip l).drop (next (skip l)).2.length) (a + (l.length - (skip l).length) + (next (skip l)).2.length) t
          rw [List.length_drop] at ih
          unfold consT at h
          split at h
          · rcases List.mem_cons.1 h with h4 | h4
            · subst h4
              dsimp only
              omega
            · have := ih h4
              omega
          · cases h
end Go.Proofs.YteobbnehdlcphaaDoor.Tok
namespace Go.Proofs.YteobbnehdlcphaaDoor.P
open Go.RowKit Go.Proofs.YteobbnehdlcphaaDoorW.PrintWords Go.Proofs.YteobbnehdlcphaaDoorW.PrintLast Go.Proofs.YteobbnehdlcphaaDoorW.PrintMore
open Go.Proofs.YteobbnehdlcphaaDoor
attribute [local irreducible] bt
theorem differ_self (a : Int) (b : List UInt8) (c : Int) : (!(a == a) || (!(b == b) || (!(c == c)))) = false := by
  rw [beq_self_eq_true, beq_self_eq_true, beq_self_eq_true]; rfl
theorem ev_parts (s : ByteArray) (hs : s.size ≤ 5000) (ts us : List Tok.T) (e : Tok.T) (hts : ts.length ≤ 5001) (hus : us.length ≤ 5001) (hua : ∀ u ∈ us, u.a ≤ 5000) :
    ∀ (d i : Nat), (ts.length + us.length) - i = d → i ≤ ts.length + us.length →
    Ev (fun k => fluxionlaw04_TokenParts.l0 k s ((ts ++ [e]).map toS) (us.map toS) ((ts ++ us.map (Tok.shiftT (s.size + 1))).map toS) (i : Int)) true := by
  have hxl : ((ts ++ [e]).map toS).length = ts.length + 1 := by rw [List.length_map, List.length_append, List.length_singleton]
  have hyl : (us.map toS).length = us.length := List.length_map _
  have hwl : (ts ++ us.map (Tok.shiftT (s.size + 1))).length = ts.length + us.length := by rw [List.length_append, List.length_map]
  have hzl : ((ts ++ us.map (Tok.shiftT (s.size + 1))).map toS).length = ts.length + us.length := by rw [List.length_map, hwl]
  intro d
  induction d with
  | zero =>
    intro i h1 h2
    obtain ⟨K, e⟩ := ev_alive
    dsimp only at e
    refine ⟨K + 1, fun k hk => ?_⟩
    obtain ⟨m, rfl⟩ : ∃ m, k = m + 1 := ⟨k - 1, by omega⟩
    simp only [fluxionlaw04_TokenParts.l0]
    rw [hzl, if_neg (by omega)]
    exact bind_of (e m (by omega)) rfl
  | succ d ih =>
    intro i h1 h2
    obtain ⟨K, e3⟩ := ih (i + 1) (by omega) (by omega)
    dsimp only at e3
    have w1 : Aside0 (wrap64 ((i : Int) + 1) = ((i + 1 : Nat) : Int)) := ⟨by rw [w64 (by omega) (by omega)]; rfl⟩
    have wm : Aside0 (wrap64 (((ts.length + 1 : Nat) : Int) - 1) = (ts.length : Int)) := ⟨by rw [w64 (by omega) (by omega)]; omega⟩
    have hrz := rd_toS (ts ++ us.map (Tok.shiftT (s.size + 1))) i (by omega)
    refine ⟨K + 2, fun k hk => ?_⟩
    obtain ⟨m, rfl⟩ : ∃ m, k = m + 1 + 1 := ⟨k - 2, by omega⟩
    have e4 := e3 m (by omega)
    have e5 := e3 (m + 1) (by omega)
    by_cases hi : i < ts.length
    · have hrx := rd_toS (ts ++ [e]) i (by rw [List.length_append, List.length_singleton]; omega)
      rw [List.getElem_append_left hi] at hrz hrx
      simp only [fluxionlaw04_TokenParts.l0]
      rw [hzl, hxl, wm.out, if_pos (by omega), if_pos (by omega), if_pos (by omega), if_pos (by omega), hrz, hrx, differ_self]
      simp only [fluxionlaw04_TokenParts.j2]
      rw [if_neg (by decide), hxl, wm.out, if_neg (by omega), w1.out]
      exact e4
    · have hiu : i - ts.length < us.length := by omega
      have hry := rd_toS us (i - ts.length) hiu
      rw [List.getElem_append_right (by omega), List.getElem_map] at hrz
      have hua' := hua us[i - ts.length] (List.getElem_mem hiu)
      generalize us[i - ts.length] = u at *
      have wi : Aside0 (wrap64 (wrap64 ((i : Int) - ((ts.length + 1 : Nat) : Int)) + 1) = ((i - ts.length : Nat) : Int)) := ⟨by rw [w64 (n := (i : Int) - ((ts.length + 1 : Nat) : Int)) (by omega) (by omega), w64 (by omega) (by omega)]; omega⟩
      have wa : Aside0 (wrap64 (wrap64 ((u.a : Int) + (s.size : Int)) + 1) = ((u.a + (s.size + 1) : Nat) : Int)) := ⟨by rw [w64 (n := (u.a : Int) + (s.size : Int)) (by omega) (by omega), w64 (by omega) (by omega)]; omega⟩
      simp only [fluxionlaw04_TokenParts.l0]
      rw [hzl, hxl, wm.out, if_pos (by omega), if_neg (by omega)]
      simp only [fluxionlaw04_TokenParts.j2]
      rw [if_neg (by decide), hzl, hxl, hyl, wm.out, wi.out, if_pos (by omega), if_pos (by omega), if_pos (by omega), if_pos (by omega), if_pos (by omega), hrz, hry, w1.out]
      have hd : (!((toS (Tok.shiftT (s.size + 1) u)).f0 == (toS u).f0) || (!((toS (Tok.shiftT (s.size + 1) u)).f1.toList == (toS u).f1.toList) || (!((toS (Tok.shiftT (s.size + 1) u)).f2 == wrap64 (wrap64 ((toS u).f2 + (s.size : Int)) + 1))))) = false := by
        show (!(u.k == u.k) || (!((toB u.t).toList == (toB u.t).toList) || (!(((u.a + (s.size + 1) : Nat) : Int) == wrap64 (wrap64 ((u.a : Int) + (s.size : Int)) + 1))))) = false
        rw [wa.out]
        exact differ_self _ _ _
      rw [hd, if_neg (by decide)]
      exact e4
theorem short5 (a0 : ByteArray) : (a0.extract 0 (min a0.size 5000)).size ≤ 5000 := by rw [← len_eq, ext_upto, List.length_take]; omega
theorem mn5 (a0 : ByteArray) : mn (a0.size : Int) 5000 = ((min a0.size 5000 : Nat) : Int) := by unfold mn; split <;> omega
theorem tokenParts_all (a0 a1 : ByteArray) : ∃ k, fluxionlaw04_TokenParts.f k a0 a1 = some true := by
  have hs := short5 a0
  have ht := short5 a1
  unfold fluxionlaw04_TokenParts.f
  have c0 : (0 : Int) ≤ ((min a0.size 5000 : Nat) : Int) := by omega
  have c1 : ((min a0.size 5000 : Nat) : Int) ≤ (a0.size : Int) := by omega
  have c2 : (0 : Int) ≤ ((min a1.size 5000 : Nat) : Int) := by omega
  have c3 : ((min a1.size 5000 : Nat) : Int) ≤ (a1.size : Int) := by omega
  rw [mn5 a0, mn5 a1, Int.toNat_natCast, Int.toNat_natCast]
  simp only [if_pos c0, if_pos c1, if_pos c2, if_pos c3]
  clear c0 c1 c2 c3
  generalize a0.extract 0 (min a0.size 5000) = s at *
  generalize a1.extract 0 (min a1.size 5000) = t at *
  have hfeed : (⟨#[10]⟩ : ByteArray) = toB [10] := rfl
  have hu : s ++ (⟨#[10]⟩ : ByteArray) ++ t = toB (s.data.toList ++ 10 :: t.data.toList) := by
    rw [hfeed, ← toB_of s, ← toB_of t, toB_app, toB_app, toB_list, toB_list, List.append_assoc]
    rfl
  have hsz1 : (s ++ (⟨#[10]⟩ : ByteArray)).size = s.size + 1 := by
    rw [hfeed, ← toB_of s, toB_app, toB_size, toB_size, List.length_append]; rfl
  obtain ⟨K1, e1⟩ := ev_Scan s (by omega)
  obtain ⟨K2, e2⟩ := ev_Scan t (by omega)
  obtain ⟨K3, e3⟩ := ev_Scan (toB (s.data.toList ++ 10 :: t.data.toList)) (by rw [toB_size, List.length_append, List.length_cons, len_eq, len_eq]; omega)
  obtain ⟨K4, e4⟩ := ev_alive
  dsimp only at e1 e2 e3 e4
  rw [toB_list] at e3
  have hp := Tok.scan_parts t.data.toList s.data.toList.length s.data.toList 0 (Nat.le_refl _)
  have hsh := Tok.scan_shift (s.size + 1) (t.data.toList.length + 1) t.data.toList 0
  have hga := Tok.scan_good (s.data.toList.length + 1) s.data.toList 0
  have hgb := Tok.scan_good (t.data.toList.length + 1) t.data.toList 0
  have hpb := Tok.scan_pos (t.data.toList.length + 1) t.data.toList 0
  have hG : ∀ (l : Tok.Bs) (a : Nat), Tok.scanF (l.length + 1) l a = Tok.scanG l a := fun _ _ => rfl
  rw [hG, hG] at hsh
  rw [hG] at hga hgb hpb
  rw [len_eq] at hp hga hgb hpb
  rw [Nat.zero_add] at hp hsh
  generalize Tok.scanG s.data.toList 0 = A at *
  generalize Tok.scanG t.data.toList 0 = B at *
  generalize Tok.scanG (s.data.toList ++ 10 :: t.data.toList) 0 = C at *
  obtain ⟨al, ap, ae⟩ := A
  obtain ⟨bl, bp, be⟩ := B
  dsimp only at hp hsh hga hgb hpb
  unfold res at e1 e2 e3
  dsimp only at e1 e2
  have g4 : ∀ k, K4 ≤ k → ((fluxionlaw04_alive.f k).bind fun t => some t) = some true := fun k hk => bind_of (e4 k hk) rfl
  by_cases hae : ae = 0
  · subst hae
    obtain ⟨ts, hal, hC⟩ := hp.2 rfl
    subst hC
    subst hal
    rw [if_pos rfl, List.nil_append] at e1
    have hCe : ∀ x : List Tok.T × Int × Int, (Tok.consAll ts x).2.2 = x.2.2 := by
      intro x; unfold Tok.consAll; split
      · rename_i h; exact h.symm
      · rfl
    rw [hCe, hsh.2] at e3
    by_cases hbe : be = 0
    · subst hbe
      rw [if_pos rfl, List.nil_append] at e2 e3
      have hC1 : (Tok.consAll ts (Tok.scanG t.data.toList (s.size + 1))).1 = ts ++ bl.map (Tok.shiftT (s.size + 1)) := by
        unfold Tok.consAll; rw [if_pos hsh.2, hsh.1]
      rw [hC1] at e3
      generalize (Tok.consAll ts (Tok.scanG t.data.toList (s.size + 1))).2.1 = cp at e3
      have hal1 := hga.1
      rw [List.length_append, List.length_singleton] at hal1
      obtain ⟨K5, e5⟩ := ev_parts s (by omega) ts bl ⟨5, [], s.size⟩ (by omega) (by omega) (fun u hu => by have := hpb u hu; omega) (ts.length + bl.length) 0 rfl (Nat.zero_le _)
      dsimp only at e5
      refine ⟨K1 + K2 + K3 + K4 + K5 + 2, ?_⟩
      generalize hK : K1 + K2 + K3 + K4 + K5 = K
      refine bind_of (e1 _ (by omega)) ?_
      refine bind_of (e2 _ (by omega)) ?_
      rw [hsz1, if_pos (by omega), if_pos (by omega), hu]
      refine bind_of (e3 _ (by omega)) ?_
      dsimp only
      rw [if_pos rfl, if_pos rfl, if_pos rfl, if_pos (by
        simp only [List.length_map, List.length_append, List.length_singleton]
        rw [w64 (n := _ + _) (by omega) (by omega), w64 (by omega) (by omega)]; omega), decide_eq_false (by simp only [List.length_map, List.length_append, List.length_singleton]; omega)]
      simp only [fluxionlaw04_TokenParts.j0]
      rw [if_neg (by decide)]
      exact e5 (K + 1) (by omega)
    · rw [if_neg hbe] at e2 e3
      refine ⟨K1 + K2 + K3 + K4, ?_⟩
      refine bind_of (e1 _ (by omega)) ?_
      refine bind_of (e2 _ (by omega)) ?_
      rw [hsz1, if_pos (by omega), if_pos (by omega), hu]
      refine bind_of (e3 _ (by omega)) ?_
      dsimp only
      rw [if_pos rfl, if_neg hbe, if_pos rfl]
      exact g4 _ (by omega)
  · have hC := hp.1 hae
    rw [if_neg hae] at e1
    rw [hC, if_neg hae] at e3
    refine ⟨K1 + K2 + K3 + K4, ?_⟩
    refine bind_of (e1 _ (by omega)) ?_
    refine bind_of (e2 _ (by omega)) ?_
    rw [hsz1, if_pos (by omega), if_pos (by omega), hu]
    refine bind_of (e3 _ (by omega)) ?_
    dsimp only
    rw [if_neg hae, if_pos rfl]
    exact g4 _ (by omega)
end Go.Proofs.YteobbnehdlcphaaDoor.P

