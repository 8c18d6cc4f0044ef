import Derived.Test.YteobbnehdlcphaaDoorQOP16
import Derived.Test.YteobbnehdlcphaaDoorQOT11
namespace Go.Proofs.YteobbnehdlcphaaDoor.Tok
def gapR : Bool → Bs → Option Bool
  | b, [] => some b
  | b, c :: r => if !(c != 10 && (b || c == 35)) && !isBlank c then none else gapR (c != 10 && (b || c == 35)) r
theorem gapR_cons (b : Bool) (c : UInt8) (r : Bs) : gapR b (c :: r) = if !(c != 10 && (b || c == 35)) && !isBlank c then none else gapR (c != 10 && (b || c == 35)) r := rfl
theorem gapR_app : ∀ (b : Bool) (x y : Bs), gapR b (x ++ y) = (gapR b x).bind fun c => gapR c y
  | _, [], _ => rfl
  | b, c :: r, y => by
    rw [List.cons_append, gapR_cons, gapR_cons]
    split
    · rfl
    · exact gapR_app _ r y
theorem rem_not (c : UInt8) (h : isRem c = true) : (c != 10) = true := by
  unfold isRem at h
  rw [Bool.and_eq_true] at h
  exact h.1
theorem gapR_rem : ∀ x : Bs, (∀ c ∈ x, isRem c = true) → gapR true x = some true
  | [], _ => rfl
  | c :: r, h => by
    rw [gapR_cons, rem_not c (h c List.mem_cons_self)]
    exact gapR_rem r (fun d hd => h d (List.mem_cons_of_mem _ hd))
theorem blank_hash {c : UInt8} (h : isBlank c = true) : (c == 35) = false := by
  rw [beq_eq_false_iff_ne]
  rintro rfl
  revert h; decide
theorem gapR_blank {c : UInt8} (r : Bs) (h : isBlank c = true) : gapR false (c :: r) = gapR false r := by
  rw [gapR_cons, blank_hash h, h, Bool.false_or, Bool.and_false]
  rfl
def gapOf (l : Bs) : Bs := l.take (l.length - (skip l).length)
theorem gap_blank {c : UInt8} (r : Bs) (h : isBlank c = true) : gapOf (c :: r) = c :: gapOf r := by
  unfold gapOf
  have h1 := skip_le r
  rw [skip_blank r h, List.length_cons, show r.length + 1 - (skip r).length = (r.length - (skip r).length) + 1 by omega, List.take_succ_cons]
theorem gap_hash (r : Bs) : gapOf (35 :: r) = (35 :: r : Bs).takeWhile isRem ++ gapOf ((35 :: r : Bs).dropWhile isRem) := by
  unfold gapOf
  have h1 := skip_le ((35 :: r : Bs).dropWhile isRem)
  have h2 : (35 :: r : Bs) = (35 :: r : Bs).takeWhile isRem ++ (35 :: r : Bs).dropWhile isRem := List.takeWhile_append_dropWhile.symm
  have h3 := congrArg List.length h2
  rw [List.length_append] at h3
  rw [skip_hash r]
  generalize hx : (35 :: r : Bs).takeWhile isRem = x at *
  generalize hy : (35 :: r : Bs).dropWhile isRem = y at *
  rw [h3, h2, show x.length + y.length - (skip y).length = x.length + (y.length - (skip y).length) by omega, List.take_length_add_append]
theorem gap_stay {c : UInt8} (r : Bs) (h1 : isBlank c = false) (h2 : c ≠ 35) : gapOf (c :: r) = [] := by
  unfold gapOf
  rw [skip_stay r h1 h2, Nat.sub_self]
  rfl
theorem tw_mem {p : UInt8 → Bool} : ∀ (l : Bs), ∀ c ∈ l.takeWhile p, p c = true
  | [], c, h => by cases h
  | d :: l, c, h => by
    cases hd : p d with
    | false => rw [List.takeWhile_cons, hd] at h; cases h
    | true =>
      rw [List.takeWhile_cons, hd, if_pos rfl] at h
      rcases List.mem_cons.1 h with rfl | h
      · exact hd
      · exact tw_mem l c h
theorem gap_ok : ∀ (n : Nat) (l : Bs), l.length ≤ n → (skip l = [] → ∃ b, gapR false (gapOf l) = some b) ∧ (skip l ≠ [] → (next (skip l)).1 ≠ 0 → gapR false (gapOf l) = some false) := by
  intro n
  induction n with
  | zero =>
    intro l h
    have : l = [] := List.eq_nil_of_length_eq_zero (by omega)
    subst this
    exact ⟨fun _ => ⟨false, rfl⟩, fun _ _ => rfl⟩
  | succ n ih =>
    intro l h
    cases l with
    | nil => exact ⟨fun _ => ⟨false, rfl⟩, fun _ _ => rfl⟩
    | cons c r =>
      rw [List.length_cons] at h
      cases hb : isBlank c with
      | true =>
        rw [skip_blank r hb, gap_blank r hb, gapR_blank _ hb]
        exact ih r (by omega)
      | false =>
        by_cases hc : c = 35
        · subst hc
          rw [skip_hash r, gap_hash r, gapR_app]
          have h2 : (35 :: r : Bs).takeWhile isRem = 35 :: r.takeWhile isRem := by rw [List.takeWhile_cons, rem_hash, if_pos rfl]
          have h3 : gapR false ((35 :: r : Bs).takeWhile isRem) = some true := by
            rw [h2, gapR_cons]
            exact gapR_rem _ (tw_mem r)
          rw [h3, Option.bind_some]
          have h4 := rem_drops r
          have ih2 := ih ((35 :: r : Bs).dropWhile isRem) (by omega)
          have h5 := List.head?_dropWhile_not isRem (35 :: r)
          generalize (35 :: r : Bs).dropWhile isRem = y at *
          cases y with
          | nil => exact ⟨fun _ => ⟨true, rfl⟩, fun h => absurd rfl h⟩
          | cons d q =>
            simp only [List.head?_cons] at h5
            by_cases hd : d = 10
            · subst hd
              have h6 : isBlank 10 = true := by decide
              rw [gap_blank q h6] at ih2 ⊢
              rw [gapR_blank _ h6] at ih2
              exact ih2
            · have ha : isAllowed d = false := by
                unfold isRem at h5
                rw [show (d != 10) = true from bne_iff_ne.2 hd, Bool.true_and] at h5
                simpa using h5
              have hbd : isBlank d = false := by
                cases hx : isBlank d with
                | false => rfl
                | true =>
                  exfalso
                  have : isAllowed d = true := by
                    unfold isAllowed; unfold isBlank at hx
                    simp only [Bool.or_eq_true, beq_iff_eq, Bool.and_eq_true, decide_eq_true_eq] at hx ⊢
                    rcases hx with rfl | hx
                    · left; decide
                    · right; exact hx
                  rw [ha] at this; cases this
              have hd35 : d ≠ 35 := by rintro rfl; revert ha; decide
              rw [skip_stay q hbd hd35, next_bad q ha]
              exact ⟨fun h => (by cases h), fun _ h => absurd rfl h⟩
        · rw [gap_stay r hb hc]
          exact ⟨fun _ => ⟨false, rfl⟩, fun _ _ => rfl⟩
def Ord (s : Bs) : Nat → List T → Prop
  | _, [] => False
  | a, t :: ts => a ≤ t.a ∧ t.a + t.t.length ≤ s.length ∧ (s.drop t.a).take t.t.length = t.t ∧ Good t ∧ (t.k = 1 → t.t.length ≤ 24) ∧
      ((t = ⟨5, [], s.length⟩ ∧ ts = [] ∧ ∃ b, gapR false ((s.drop a).take (t.a - a)) = some b) ∨
       (t.k ≠ 5 ∧ gapR false ((s.drop a).take (t.a - a)) = some false ∧ Ord s (t.a + t.t.length) ts))
theorem scan_ord (s : Bs) : ∀ (n : Nat) (a : Nat), (s.drop a).length < n → a ≤ s.length → (scanF n (s.drop a) a).2.2 = 0 → Ord s a (scanF n (s.drop a) a).1
  | 0, a, h, _, _ => absurd h (Nat.not_lt_zero _)
  | n + 1, a, h, ha, he => by
    have hg := gap_ok (s.drop a).length (s.drop a) (Nat.le_refl _)
    have hsl := skip_le (s.drop a)
    have hsd := skip_drop (s.drop a)
    have hl : (s.drop a).length = s.length - a := List.length_drop
    rw [scanF_eq] at he ⊢
    by_cases h1 : skip (s.drop a) = []
    · rw [if_pos h1]
      have hp : a + (s.drop a).length = s.length := by omega
      rw [hp]
      refine ⟨ha, by simp, by simp, .inl ⟨rfl, rfl⟩, fun h => (by cases h), .inl ⟨rfl, rfl, ?_⟩⟩
      obtain ⟨b, hb⟩ := hg.1 h1
      refine ⟨b, ?_⟩
      rw [← hb]
      unfold gapOf
      rw [h1]
      dsimp only [List.length_nil]
      rw [hl, Nat.sub_zero]
    · rw [if_neg h1] at he ⊢
      by_cases h2 : (next (skip (s.drop a))).1 = 0
      · rw [if_pos h2] at he; exact absurd he (show ¬ ((5 : Int) = 0) by decide)
      · rw [if_neg h2] at he ⊢
        by_cases h3 : (next (skip (s.drop a))).2.length > 24 ∧ (next (skip (s.drop a))).1 = 1
        · rw [if_pos h3] at he; exact absurd he (show ¬ ((13 : Int) = 0) by decide)
        · rw [if_neg h3] at he ⊢
          have hnt := next_text _ h2
          have hna := next_again _ h2
          have hnl := next_len_le (skip (s.drop a))
          obtain ⟨m, hm⟩ : ∃ m, m = (s.drop a).length - (skip (s.drop a)).length := ⟨_, rfl⟩
          have hgo := hg.2 h1 h2
          unfold gapOf at hgo
          rw [← hm] at hsd hgo he ⊢
          rw [List.drop_drop] at hsd
          have hl2 : (skip (s.drop a)).length = s.length - (a + m) := by rw [← hsd, List.length_drop]
          generalize skip (s.drop a) = q at *
          have hd : q.drop (next q).2.length = s.drop (a + m + (next q).2.length) := by rw [← hsd, List.drop_drop]
          rw [hd] at he ⊢
          unfold consT at he ⊢
          by_cases h4 : (scanF n (s.drop (a + m + (next q).2.length)) (a + m + (next q).2.length)).2.2 = 0
          · rw [if_pos h4]
            have ih := scan_ord s n (a + m + (next q).2.length) (by rw [List.length_drop]; omega) (by omega) h4
            refine ⟨Nat.le_add_right _ _, by dsimp only; omega, ?_, ?_, ?_, .inr ⟨hna.2, ?_, ih⟩⟩
            · dsimp only
              rw [hsd]
              have h5 := congrArg (List.take (next q).2.length) hnt.1
              rw [List.take_left] at h5
              exact h5
            · refine .inr ⟨hna.2, ?_, hna.1⟩
              intro h0
              have := hnt.2
              dsimp only at h0
              rw [h0] at this
              exact absurd this (by decide)
            · intro h5
              dsimp only at h5 ⊢
              rcases Nat.lt_or_ge 24 (next q).2.length with h6 | h6
              · exact absurd ⟨h6, h5⟩ h3
              · exact h6
            · dsimp only
              rw [Nat.add_sub_cancel_left]
              exact hgo
          · rw [if_neg h4] at he
            exact absurd he h4
theorem scan_err : ∀ (n : Nat) (l : Bs) (a : Nat), l.length < n → (scanF n l a).2.2 ≠ 0 → ∃ p : Nat, (scanF n l a).2.1 = (p : Int) ∧ p ≤ a + l.length
  | 0, _, _, h, _ => absurd h (Nat.not_lt_zero _)
  | n + 1, l, a, h, he => by
    have hsl := skip_le l
    rw [scanF_eq] at he ⊢
    by_cases h1 : skip l = []
    · rw [if_pos h1] at he; exact absurd rfl he
    · rw [if_neg h1] at he ⊢
      by_cases h2 : (next (skip l)).1 = 0
      · rw [if_pos h2]; exact ⟨_, rfl, by omega⟩
      · rw [if_neg h2] at he ⊢
        by_cases h3 : (next (skip l)).2.length > 24 ∧ (next (skip l)).1 = 1
        · rw [if_pos h3]; exact ⟨_, rfl, by omega⟩
        · rw [if_neg h3] at he ⊢
          have hnt := next_text _ h2
          have hnl := next_len_le (skip l)
          unfold consT at he ⊢
          by_cases h4 : (scanF n ((skip l).drop (next (skip l)).2.length) (a + (l.length - (skip l).length) + (next (skip l)).2.length)).2.2 = 0
          · rw [if_pos h4] at he; exact absurd rfl he
          · rw [if_neg h4]
            obtain ⟨p, hp, hpl⟩ := scan_err n ((skip l).drop (next (skip l)).2.length) (a + (l.length - (skip l).length) + (next (skip l)).2.length) (by rw [List.length_drop]; omega) h4
            rw [List.length_drop] at hpl
            exact ⟨p, hp, by omega⟩
theorem ord_last (s : Bs) : ∀ (ts : List T) (a : Nat), Ord s a ts → ∃ us, ts = us ++ [⟨5, [], s.length⟩]
  | [], _, h => h.elim
  | t :: ts, a, h => by
    rcases h with ⟨_, _, _, _, _, ⟨h1, h2, _⟩ | ⟨_, _, h1⟩⟩
    · exact ⟨[], by rw [h1, h2]; rfl⟩
    · obtain ⟨us, hu⟩ := ord_last s ts _ h1
      exact ⟨t :: us, by rw [hu]; rfl⟩
end Go.Proofs.YteobbnehdlcphaaDoor.Tok
namespace Go.Proofs.YteobbnehdlcphaaDoor.Tok
theorem whole_is (t : T) (j : Int) (hj : j ≠ 5) (h : Good t) : wholeT j t.t = (t.k == j) := by
  unfold wholeT
  rw [Bool.eq_iff_iff, decide_eq_true_eq, beq_iff_eq]
  rcases h with ⟨h1, h2⟩ | ⟨h1, h2, h3⟩
  · constructor
    · rintro ⟨h, _⟩; exact absurd h2 h
    · intro h; exact absurd (h.symm.trans h1) hj
  · rw [h3]
    constructor
    · rintro ⟨_, h⟩; injection h
    · intro h; exact ⟨h2, by rw [h]⟩
theorem name_is (t : T) (h : Good t) (hl : t.k = 1 → t.t.length ≤ 24) : (decide (t.t.length ≤ 24) && wholeT 1 t.t) = (t.k == 1) := by
  rw [whole_is t 1 (by decide) h]
  by_cases h1 : t.k = 1
  · rw [decide_eq_true (hl h1), Bool.true_and]
  · rw [show (t.k == 1) = false from beq_eq_false_iff_ne.2 h1, Bool.and_false]
end Go.Proofs.YteobbnehdlcphaaDoor.Tok
namespace Go.Proofs.YteobbnehdlcphaaDoor.P
open Go.RowKit Go.Proofs.YteobbnehdlcphaaDoorW.PrintWords Go.Proofs.YteobbnehdlcphaaDoorW.PrintLast Go.Proofs.YteobbnehdlcphaaDoorW.PrintMore
open Go.Proofs.YteobbnehdlcphaaDoor
attribute [local irreducible] bt
theorem bne_self2 {α : Type} [BEq α] [ReflBEq α] (a : α) : (a != a) = false := by
  show (!(a == a)) = false
  rw [beq_self_eq_true]; rfl
theorem ev_gap (s : ByteArray) (hs : s.size ≤ 20000) (L : List S44) (i : Int) (tk : Int) (tt : ByteArray) (ta : Nat) (hta : ta ≤ s.size) (b v : Bool)
    (fin : Ev (fun k => if b = true then fluxionlaw04_TokenOrdered.j4 k s L b i (tk != 5) tk tt (ta : Int) else fluxionlaw04_TokenOrdered.j4 k s L b i false tk tt (ta : Int)) v) :
    ∀ (d p : Nat) (rm : Bool), ta - p = d → p ≤ ta → Tok.gapR rm ((s.data.toList.drop p).take d) = some b →
      Ev (fun k => fluxionlaw04_TokenOrdered.l1 k s L rm i (p : Int) tk tt (ta : Int)) v := by
  intro d
  induction d with
  | zero =>
    intro p rm h1 h2 h3
    rw [List.take_zero] at h3
    obtain rfl : rm = b := Option.some.inj h3
    refine Ev.step (fun k => ?_) fin
    simp only [fluxionlaw04_TokenOrdered.l1]
    rw [if_neg (by omega)]
  | succ d ih =>
    intro p rm h1 h2 h3
    obtain ⟨c, r, hc⟩ : ∃ c r, s.data.toList.drop p = c :: r := by
      cases h : s.data.toList.drop p with
      | nil => have := drop_nil_of h (by omega); omega
      | cons c r => exact ⟨c, r, rfl⟩
    obtain ⟨hb, hlt⟩ := bt_of hc
    have hr := drop_succ hc
    rw [hc, List.take_succ_cons, ← hr, Tok.gapR_cons] at h3
    have w1 : Aside0 (wrap64 ((p : Int) + 1) = ((p + 1 : Nat) : Int)) := ⟨by rw [w64 (by omega) (by omega)]; rfl⟩
    have h10 : (c.toNat : Int) = 10 ↔ c = 10 := byte_ne c 10 (by decide)
    have h35 : (c.toNat : Int) = 35 ↔ c = 35 := byte_ne c 35 (by decide)
    have h32 : (c.toNat : Int) = 32 ↔ c = 32 := byte_ne c 32 (by decide)
    have h9 : (c.toNat : Int) = 9 ↔ c = 9 := byte_ne c 9 (by decide)
    have b35 := byte_eq c 35 (by decide)
    by_cases hc10 : c = 10
    · subst hc10
      rw [show Tok.isBlank 10 = true from by decide] at h3
      have h4 := ih (p + 1) false (by omega) (by omega) (by simpa using h3)
      refine Ev.step (fun k => ?_) h4
      simp only [fluxionlaw04_TokenOrdered.l1]
      rw [if_pos (by omega), if_pos (by omega), if_pos (by omega), hb, w1.out]
      rfl
    · have hne : (c != 10) = true := bne_iff_ne.2 hc10
      rw [hne, Bool.true_and] at h3
      cases rm with
      | true =>
        have h4 := ih (p + 1) true (by omega) (by omega) (by simpa using h3)
        refine Ev.step (fun k => ?_) h4
        simp only [fluxionlaw04_TokenOrdered.l1]
        rw [if_pos (by omega), if_pos (by omega), if_pos (by omega), hb, w1.out, if_neg (fun h => hc10 (h10.1 h))]
        rfl
      | false =>
        rw [Bool.false_or] at h3
        have e35 : ((c.toNat : Int) == 35) = (c == 35) := b35
        by_cases hc35 : c = 35
        · rw [show (c == 35) = true from beq_iff_eq.2 hc35] at h3 e35
          have h4 := ih (p + 1) true (by omega) (by omega) (by simpa using h3)
          refine Ev.step (fun k => ?_) h4
          simp only [fluxionlaw04_TokenOrdered.l1]
          rw [if_pos (by omega), if_pos (by omega), if_pos (by omega), hb, w1.out, if_neg (fun h => hc10 (h10.1 h)), if_neg (by decide), if_pos (h35.2 hc35), e35]
        · rw [show (c == 35) = false from beq_eq_false_iff_ne.2 hc35] at h3 e35
          have hbl : Tok.isBlank c = true := by
            cases hx : Tok.isBlank c with
            | true => rfl
            | false => rw [hx] at h3; exact absurd h3 (by simp)
          rw [hbl] at h3
          have h4 := ih (p + 1) false (by omega) (by omega) (by simpa using h3)
          refine Ev.step (fun k => ?_) h4
          simp only [fluxionlaw04_TokenOrdered.l1]
          rw [if_pos (by omega), if_pos (by omega), if_pos (by omega), hb, w1.out, if_neg (fun h => hc10 (h10.1 h)), if_neg (by decide), if_neg (fun h => hc35 (h35.1 h)), e35]
          by_cases hc32 : c = 32
          · rw [if_pos (h32.2 hc32)]
          · rw [if_neg (fun h => hc32 (h32.1 h))]
            have hc9 : c = 9 := by
              unfold Tok.isBlank at hbl
              simp only [Bool.or_eq_true, beq_iff_eq] at hbl
              rcases hbl with h | h | h
              · exact absurd h hc32
              · exact h
              · exact absurd h hc10
            rw [if_pos (h9.2 hc9)]
theorem ev_ord (s : ByteArray) (hs : s.size ≤ 20000) (ts : List Tok.T) (hn : ts.length ≤ 20001) : ∀ (d i fr : Nat) (rm : Bool), ts.length - i = d → i ≤ ts.length → fr ≤ s.size →
    (i < ts.length → Tok.Ord s.data.toList fr (ts.drop i) ∧ rm = false) → Ev (fun k => fluxionlaw04_TokenOrdered.l0 k s (ts.map toS) (fr : Int) rm (i : Int)) true := by
  intro d
  induction d with
  | zero =>
    intro i fr rm h1 h2 h3 h4
    obtain ⟨K, e⟩ := ev_alive
    dsimp only at e
    refine ⟨K + 1, fun k hk => ?_⟩
    obtain ⟨m, rfl⟩ : ∃ m, k = m + 1 := ⟨k - 1, by omega⟩
    simp only [fluxionlaw04_TokenOrdered.l0]
    rw [List.length_map, if_neg (by omega)]
    exact bind_of (e m (by omega)) rfl
  | succ d ih =>
    intro i fr rm h1 h2 h3 h4
    have hi : i < ts.length := by omega
    obtain ⟨ho, rfl⟩ := h4 hi
    rw [List.drop_eq_getElem_cons hi] at ho
    have hrd := rd_toS ts i hi
    generalize ts[i] = t at *
    obtain ⟨o1, o2, o3, o4, o5, o6⟩ := ho
    rw [len_eq] at o2
    obtain ⟨b, hgap, hflag, hnx⟩ : ∃ b, Tok.gapR false ((s.data.toList.drop fr).take (t.a - fr)) = some b ∧ (b = true → t.k = 5) ∧ (i + 1 < ts.length → Tok.Ord s.data.toList (t.a + t.t.length) (ts.drop (i + 1)) ∧ b = false) := by
      rcases o6 with ⟨o7, o8, b, o9⟩ | ⟨o7, o8, o9⟩
      · refine ⟨b, o9, fun _ => by rw [o7], fun h => ?_⟩
        have := congrArg List.length o8
        rw [List.length_drop, List.length_nil] at this
        omega
      · exact ⟨false, o8, (fun h => by cases h), fun _ => ⟨o9, rfl⟩⟩
    have hsz : (toB t.t).size = t.t.length := toB_size _
    have hsm : Sm (toB t.t) := sm_of (n := 20000) _ (by omega) (by decide)
    have w1 : Aside0 (wrap64 ((i : Int) + 1) = ((i + 1 : Nat) : Int)) := ⟨by rw [w64 (by omega) (by omega)]; rfl⟩
    have w2 : Aside0 (wrap64 ((t.a : Int) + ((toB t.t).size : Int)) = ((t.a + t.t.length : Nat) : Int)) := ⟨by rw [hsz, w64 (by omega) (by omega)]; rfl⟩
    obtain ⟨K1, e1⟩ := ev_IsName (toB t.t) hsm
    obtain ⟨K2, e2⟩ := ev_IsWord (toB t.t) hsm
    obtain ⟨K3, e3⟩ := ev_IsNumber (toB t.t) hsm
    obtain ⟨K4, e4⟩ := ih (i + 1) (t.a + t.t.length) b (by omega) (by omega) (by omega) hnx
    dsimp only at e1 e2 e3 e4
    rw [toB_list] at e1 e2 e3
    rw [hsz, Tok.name_is t o4 o5] at e1
    rw [← Tok.whole_word, Tok.whole_is t 2 (by decide) o4] at e2
    rw [Tok.whole_is t 3 (by decide) o4] at e3
    have hj4 : ∀ m, K1 + K2 + K3 + K4 ≤ m → fluxionlaw04_TokenOrdered.j4 (m + 1) s (ts.map toS) b (i : Int) false t.k (toB t.t) (t.a : Int) = some true := by
      intro m hm
      simp only [fluxionlaw04_TokenOrdered.j4]
      rw [if_neg (by decide)]
      refine bind_of (e1 m (by omega)) ?_
      rw [bne_self2, if_neg (by decide)]
      refine bind_of (e2 m (by omega)) ?_
      rw [bne_self2, if_neg (by decide)]
      refine bind_of (e3 m (by omega)) ?_
      rw [bne_self2, if_neg (by decide), w1.out, w2.out]
      exact e4 m (by omega)
    have hfin : Ev (fun k => if b = true then fluxionlaw04_TokenOrdered.j4 k s (ts.map toS) b (i : Int) (t.k != 5) t.k (toB t.t) (t.a : Int) else fluxionlaw04_TokenOrdered.j4 k s (ts.map toS) b (i : Int) false t.k (toB t.t) (t.a : Int)) true := by
      refine ⟨K1 + K2 + K3 + K4 + 1, fun k hk => ?_⟩
      obtain ⟨m, rfl⟩ : ∃ m, k = m + 1 := ⟨k - 1, by omega⟩
      dsimp only
      by_cases hb : b = true
      · rw [if_pos hb, show (t.k != 5) = false from by rw [hflag hb]; rfl]
        exact hj4 m (by omega)
      · rw [if_neg hb]
        exact hj4 m (by omega)
    obtain ⟨K5, e5⟩ := ev_gap s hs (ts.map toS) (i : Int) t.k (toB t.t) t.a (by omega) b true hfin (t.a - fr) fr false rfl o1 hgap
    dsimp only at e5
    have hcut : (s.extract t.a (t.a + t.t.length)).toList = (toB t.t).toList := by
      rw [toB_toList, toList_eq, ext_mid, Nat.add_sub_cancel_left, o3]
    refine ⟨K5 + 2, fun k hk => ?_⟩
    obtain ⟨m, rfl⟩ : ∃ m, k = m + 1 + 1 := ⟨k - 2, by omega⟩
    simp only [fluxionlaw04_TokenOrdered.l0]
    rw [List.length_map, if_pos (by omega), if_pos (by omega), hrd]
    show (if (t.a : Int) < (fr : Int) then fluxionlaw04_TokenOrdered.j2 (m + 1) s (ts.map toS) (fr : Int) false (i : Int) true t.k (toB t.t) (t.a : Int) else (if wrap64 ((t.a : Int) + ((toB t.t).size : Int)) > (s.size : Int) then fluxionlaw04_TokenOrdered.j2 (m + 1) s (ts.map toS) (fr : Int) false (i : Int) true t.k (toB t.t) (t.a : Int) else (if 0 ≤ (t.a : Int) then (if (t.a : Int) ≤ wrap64 ((t.a : Int) + ((toB t.t).size : Int)) then (if wrap64 ((t.a : Int) + ((toB t.t).size : Int)) ≤ (s.size : Int) then fluxionlaw04_TokenOrdered.j2 (m + 1) s (ts.map toS) (fr : Int) false (i : Int) ((s.extract ((t.a : Int)).toNat (wrap64 ((t.a : Int) + ((toB t.t).size : Int))).toNat).toList != (toB t.t).toList) t.k (toB t.t) (t.a : Int) else none) else none) else none))) = some true
    rw [w2.out, if_neg (by omega), if_neg (by omega), if_pos (by omega), if_pos (by omega), if_pos (by omega), Int.toNat_natCast, Int.toNat_natCast, hcut, bne_self2]
    simp only [fluxionlaw04_TokenOrdered.j2]
    rw [if_neg (by decide)]
    exact e5 m (by omega)
theorem tokenOrdered_all (a0 : ByteArray) : ∃ k, fluxionlaw04_TokenOrdered.f k a0 = some true := by
  obtain ⟨s, hs, hsz⟩ := short_f a0
  obtain ⟨K2, e2⟩ := ev_alive
  dsimp only at e2
  by_cases hl : s.size ≤ 20000
  · obtain ⟨K1, e1⟩ := ev_Scan s hl
    dsimp only at e1
    have ho := Tok.scan_ord s.data.toList (s.data.toList.length + 1) 0 (by rw [List.drop_zero]; omega) (Nat.zero_le _)
    have hee := Tok.scan_err (s.data.toList.length + 1) s.data.toList 0 (by omega)
    have hgd := Tok.scan_good (s.data.toList.length + 1) s.data.toList 0
    rw [List.drop_zero] at ho
    have hG : Tok.scanF (s.data.toList.length + 1) s.data.toList 0 = Tok.scanG s.data.toList 0 := rfl
    rw [hG] at ho hee hgd
    generalize Tok.scanG s.data.toList 0 = A at *
    obtain ⟨ts, p, e⟩ := A
    dsimp only at ho hee hgd
    rw [len_eq] at hee hgd
    unfold res at e1
    dsimp only at e1
    by_cases he : e = 0
    · subst he
      rw [if_pos rfl, List.nil_append] at e1
      have ho1 := ho rfl
      obtain ⟨us, hu⟩ := Tok.ord_last _ _ _ ho1
      have hlen : ts.length = us.length + 1 := by rw [hu, List.length_append]; rfl
      obtain ⟨K3, e3⟩ := ev_ord s hl ts (by omega) ts.length 0 0 false rfl (Nat.zero_le _) (Nat.zero_le _) (fun _ => ⟨ho1, rfl⟩)
      dsimp only at e3
      have hlast : rd_T44 (ts.map toS) ((us.length : Nat) : Int) = toS ⟨5, [], s.size⟩ := by
        rw [rd_toS ts us.length (by omega)]
        congr 1
        simp only [hu, len_eq]
        rw [List.getElem_append_right (Nat.le_refl _)]
        simp
      have hw : wrap64 (((ts.map toS).length : Int) - 1) = ((us.length : Nat) : Int) := by rw [List.length_map, hlen, w64 (by omega) (by omega)]; omega
      refine ⟨K1 + K2 + K3 + 1, ?_⟩
      generalize hK : K1 + K2 + K3 = K
      unfold fluxionlaw04_TokenOrdered.f
      refine bind_of hs ?_
      refine bind_of (e1 _ (by omega)) ?_
      dsimp only
      rw [if_pos rfl, hw, List.length_map, if_neg (by omega), if_pos (by omega), if_pos (by omega), hlast]
      have hd : (!((toS ⟨5, [], s.size⟩).f0 == 5) || (!((toS ⟨5, [], s.size⟩).f1.toList == ([] : List UInt8)) || (!((toS ⟨5, [], s.size⟩).f2 == (s.size : Int))))) = false := by
        show (!((5 : Int) == 5) || (!((toB []).toList == ([] : List UInt8)) || (!((s.size : Int) == (s.size : Int))))) = false
        rw [toB_toList, beq_self_eq_true, beq_self_eq_true, beq_self_eq_true]
        rfl
      rw [hd]
      simp only [fluxionlaw04_TokenOrdered.j0]
      rw [if_neg (by decide)]
      exact e3 K (by omega)
    · rw [if_neg he] at e1
      obtain ⟨q, hq, hql⟩ := hee he
      refine ⟨K1 + K2, ?_⟩
      unfold fluxionlaw04_TokenOrdered.f
      refine bind_of hs ?_
      refine bind_of (e1 _ (by omega)) ?_
      dsimp only
      rw [if_neg he, if_pos (show (([] : List S44).length : Int) = 0 from rfl), hq, if_pos (by omega), if_pos (by omega)]
      exact bind_of (e2 _ (by omega)) rfl
  · refine ⟨K2, ?_⟩
    unfold fluxionlaw04_TokenOrdered.f
    refine bind_of hs ?_
    refine bind_of (Scan_long s hl _) ?_
    dsimp only
    rw [if_neg (by decide), if_pos (show (([] : List S44).length : Int) = 0 from rfl), if_pos (by omega), if_pos (by omega)]
    exact bind_of (e2 _ (by omega)) rfl
end Go.Proofs.YteobbnehdlcphaaDoor.P

