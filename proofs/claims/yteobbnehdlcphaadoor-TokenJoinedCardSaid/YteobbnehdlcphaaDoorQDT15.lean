import Derived.Test.YteobbnehdlcphaaDoorQDP0
import Derived.Test.YteobbnehdlcphaaDoorQDP1
import Derived.Test.YteobbnehdlcphaaDoorQDP2
import Derived.Test.YteobbnehdlcphaaDoorQDP3
import Derived.Test.YteobbnehdlcphaaDoorQDP11
import Derived.Test.YteobbnehdlcphaaDoorQDP14
import Derived.Test.YteobbnehdlcphaaDoorQDG
import Derived.Test.YteobbnehdlcphaaDoorQDT11
namespace Go.Proofs.YteobbnehdlcphaaDoor.Tok
def gapR : Bool → Bs → Option Bool
  | b, [] => some b
  | b, c :: r => if !(c != 10 && (b || c == 35)) && !isBlank c then none else gapR (c != 10 && (b || c == 35)) r
theorem gapR_cons (b : Bool) (c : UInt8) (r : Bs) : gapR b (c :: r) = if !(c != 10 && (b || c == 35)) && !isBlank c then none else gapR (c != 10 && (b || c == 35)) r := rfl
theorem gapR_app : ∀ (b : Bool) (x y : Bs), gapR b (x ++ y) = (gapR b x).bind fun c => gapR c y
  | _, [], _ => rfl
  | b, c :: r, y => by
    rw [List.cons_append, gapR_cons, gapR_cons]
    split
    · rfl
    · exact gapR_app _ r y
theorem rem_not (c : UInt8) (h : isRem c = true) : (c != 10) = true := by
  unfold isRem at h
  rw [Bool.and_eq_true] at h
  exact h.1
theorem gapR_rem : ∀ x : Bs, (∀ c ∈ x, isRem c = true) → gapR true x = some true
  | [], _ => rfl
  | c :: r, h => by
    rw [gapR_cons, rem_not c (h c List.mem_cons_self)]
    exact gapR_rem r (fun d hd => h d (List.mem_cons_of_mem _ hd))
theorem blank_hash {c : UInt8} (h : isBlank c = true) : (c == 35) = false := by
  rw [beq_eq_false_iff_ne]
  rintro rfl
  revert h; decide
theorem gapR_blank {c : UInt8} (r : Bs) (h : isBlank c = true) : gapR false (c :: r) = gapR false r := by
  rw [gapR_cons, blank_hash h, h, Bool.false_or, Bool.and_false]
  rfl
def gapOf (l : Bs) : Bs := l.take (l.length - (skip l).length)
theorem gap_blank {c : UInt8} (r : Bs) (h : isBlank c = true) : gapOf (c :: r) = c :: gapOf r := by
  unfold gapOf
  have h1 := skip_le r
  rw [skip_blank r h, List.length_cons, show r.length + 1 - (skip r).length = (r.length - (skip r).length) + 1 by omega, List.take_succ_cons]
theorem gap_hash (r : Bs) : gapOf (35 :: r) = (35 :: r : Bs).takeWhile isRem ++ gapOf ((35 :: r : Bs).dropWhile isRem) := by
  unfold gapOf
  have h1 := skip_le ((35 :: r : Bs).dropWhile isRem)
  have h2 : (35 :: r : Bs) = (35 :: r : Bs).takeWhile isRem ++ (35 :: r : Bs).dropWhile isRem := List.takeWhile_append_dropWhile.symm
  have h3 := congrArg List.length h2
  rw [List.length_append] at h3
  rw [skip_hash r]
  generalize hx : (35 :: r : Bs).takeWhile isRem = x at *
  generalize hy : (35 :: r : Bs).dropWhile isRem = y at *
  rw [h3, h2, show x.length + y.length - (skip y).length = x.length + (y.length - (skip y).length) by omega, List.take_length_add_append]
theorem gap_stay {c : UInt8} (r : Bs) (h1 : isBlank c = false) (h2 : c ≠ 35) : gapOf (c :: r) = [] := by
  unfold gapOf
  rw [skip_stay r h1 h2, Nat.sub_self]
  rfl
theorem tw_mem {p : UInt8 → Bool} : ∀ (l : Bs), ∀ c ∈ l.takeWhile p, p c = true
  | [], c, h => by cases h
  | d :: l, c, h => by
    cases hd : p d with
    | false => rw [List.takeWhile_cons, hd] at h; cases h
    | true =>
      rw [List.takeWhile_cons, hd, if_pos rfl] at h
      rcases List.mem_cons.1 h with rfl | h
      · exact hd
      · exact tw_mem l c h
theorem gap_ok : ∀ (n : Nat) (l : Bs), l.length ≤ n → (skip l = [] → ∃ b, gapR false (gapOf l) = some b) ∧ (skip l ≠ [] → (next (skip l)).1 ≠ 0 → gapR false (gapOf l) = some false) := by
  intro n
  induction n with
  | zero =>
    intro l h
    have : l = [] := List.eq_nil_of_length_eq_zero (by omega)
    subst this
    exact ⟨fun _ => ⟨false, rfl⟩, fun _ _ => rfl⟩
  | succ n ih =>
    intro l h
    cases l with
    | nil => exact ⟨fun _ => ⟨false, rfl⟩, fun _ _ => rfl⟩
    | cons c r =>
      rw [List.length_cons] at h
      cases hb : isBlank c with
      | true =>
        rw [skip_blank r hb, gap_blank r hb, gapR_blank _ hb]
        exact ih r (by omega)
      | false =>
        by_cases hc : c = 35
        · subst hc
          rw [skip_hash r, gap_hash r, gapR_app]
          have h2 : (35 :: r : Bs).takeWhile isRem = 35 :: r.takeWhile isRem := by rw [List.takeWhile_cons, rem_hash, if_pos rfl]
          have h3 : gapR false ((35 :: r : Bs).takeWhile isRem) = some true := by
            rw [h2, gapR_cons]
            exact gapR_rem _ (tw_mem r)
          rw [h3, Option.bind_some]
          have h4 := rem_drops r
          have ih2 := ih ((35 :: r : Bs).dropWhile isRem) (by omega)
          have h5 := List.head?_dropWhile_not isRem (35 :: r)
          generalize (35 :: r : Bs).dropWhile isRem = y at *
          cases y with
          | nil => exact ⟨fun _ => ⟨true, rfl⟩, fun h => absurd rfl h⟩
          | cons d q =>
            simp only [List.head?_cons] at h5
            by_cases hd : d = 10
            · subst hd
              have h6 : isBlank 10 = true := by decide
              rw [gap_blank q h6] at ih2 ⊢
              rw [gapR_blank _ h6] at ih2
              exact ih2
            · have ha : isAllowed d = false := by
                unfold isRem at h5
                rw [show (d != 10) = true from bne_iff_ne.2 hd, Bool.true_and] at h5
                simpa using h5
              have hbd : isBlank d = false := by
                cases hx : isBlank d with
                | false => rfl
                | true =>
                  exfalso
                  have : isAllowed d = true := by
                    unfold isAllowed; unfold isBlank at hx
                    simp only [Bool.or_eq_true, beq_iff_eq, Bool.and_eq_true, decide_eq_true_eq] at hx ⊢
                    rcases hx with rfl | hx
                    · left; decide
                    · right; exact hx
                  rw [ha] at this; cases this
              have hd35 : d ≠ 35 := by rintro rfl; revert ha; decide
              rw [skip_stay q hbd hd35, next_bad q ha]
              exact ⟨fun h => (by cases h), fun _ h => absurd rfl h⟩
        · rw [gap_stay r hb hc]
          exact ⟨fun _ => ⟨false, rfl⟩, fun _ _ => rfl⟩
def Ord (s : Bs) : Nat → List T → Prop
  | _, [] => False
  | a, t :: ts => a ≤ t.a ∧ t.a + t.t.length ≤ s.length ∧ (s.drop t.a).take t.t.length = t.t ∧ Good t ∧ (t.k = 1 → t.t.length ≤ 24) ∧
      ((t = ⟨5, [], s.length⟩ ∧ ts = [] ∧ ∃ b, gapR false ((s.drop a).take (t.a - a)) = some b) ∨
       (t.k ≠ 5 ∧ gapR false ((s.drop a).take (t.a - a)) = some false ∧ Ord s (t.a + t.t.length) ts))
theorem scan_ord (s : Bs) : ∀ (n : Nat) (a : Nat), (s.drop a).length < n → a ≤ s.length → (scanF n (s.drop a) a).2.2 = 0 → Ord s a (scanF n (s.drop a) a).1
  | 0, a, h, _, _ => absurd h (Nat.not_lt_zero _)
  | n + 1, a, h, ha, he => by
    have hg := gap_ok (s.drop a).length (s.drop a) (Nat.le_refl _)
    have hsl := skip_le (s.drop a)
    have hsd := skip_drop (s.drop a)
    have hl : (s.drop a).length = s.length - a := List.length_drop
    rw [scanF_eq] at he ⊢
    by_cases h1 : skip (s.drop a) = []
    · rw [if_pos h1]
      have hp : a + (s.drop a).length = s.length := by omega
      rw [hp]
      refine ⟨ha, by simp, by simp, .inl ⟨rfl, rfl⟩, fun h => (by cases h), .inl ⟨rfl, rfl, ?_⟩⟩
      obtain ⟨b, hb⟩ := hg.1 h1
      refine ⟨b, ?_⟩
      rw [← hb]
      unfold gapOf
      rw [h1]
      dsimp only [List.length_nil]
      rw [hl, Nat.sub_zero]
    · rw [if_neg h1] at he ⊢
      by_cases h2 : (next (skip (s.drop a))).1 = 0
      · rw [if_pos h2] at he; exact absurd he (show ¬ ((5 : Int) = 0) by decide)
      · rw [if_neg h2] at he ⊢
        by_cases h3 : (next (skip (s.drop a))).2.length > 24 ∧ (next (skip (s.drop a))).1 = 1
        · rw [if_pos h3] at he; exact absurd he (show ¬ ((13 : Int) = 0) by decide)
        · rw [if_neg h3] at he ⊢
          have hnt := next_text _ h2
          have hna := next_again _ h2
          have hnl := next_len_le (skip (s.drop a))
          obtain ⟨m, hm⟩ : ∃ m, m = (s.drop a).length - (skip (s.drop a)).length := ⟨_, rfl⟩
          have hgo := hg.2 h1 h2
          unfold gapOf at hgo
          rw [← hm] at hsd hgo he ⊢
          rw [List.drop_drop] at hsd
          have hl2 : (skip (s.drop a)).length = s.length - (a + m) := by rw [← hsd, List.length_drop]
          generalize skip (s.drop a) = q at *
          have hd : q.drop (next q).2.length = s.drop (a + m + (next q).2.length) := by rw [← hsd, List.drop_drop]
          rw [hd] at he ⊢
          unfold consT at he ⊢
          by_cases h4 : (scanF n (s.drop (a + m + (next q).2.length)) (a + m + (next q).2.length)).2.2 = 0
          · rw [if_pos h4]
            have ih := scan_ord s n (a + m + (next q).2.length) (by rw [List.length_drop]; omega) (by omega) h4
            refine ⟨Nat.le_add_right _ _, by dsimp only; omega, ?_, ?_, ?_, .inr ⟨hna.2, ?_, ih⟩⟩
            · dsimp only
              rw [hsd]
              have h5 := congrArg (List.take (next q).2.length) hnt.1
              rw [List.take_left] at h5
              exact h5
            · refine .inr ⟨hna.2, ?_, hna.1⟩
              intro h0
              have := hnt.2
              dsimp only at h0
              rw [h0] at this
              exact absurd this (by decide)
            · intro h5
              dsimp only at h5 ⊢
              rcases Nat.lt_or_ge 24 (next q).2.length with h6 | h6
              · exact absurd ⟨h6, h5⟩ h3
              · exact h6
            · dsimp only
              rw [Nat.add_sub_cancel_left]
              exact hgo
          · rw [if_neg h4] at he
            exact absurd he h4
end Go.Proofs.YteobbnehdlcphaaDoor.Tok
namespace Go.Proofs.YteobbnehdlcphaaDoor.P
open Go.RowKit Go.Proofs.YteobbnehdlcphaaDoorW.PrintWords Go.Proofs.YteobbnehdlcphaaDoorW.PrintLast Go.Proofs.YteobbnehdlcphaaDoorW.PrintMore
open Go.Proofs.YteobbnehdlcphaaDoor
attribute [local irreducible] bt
end Go.Proofs.YteobbnehdlcphaaDoor.P

