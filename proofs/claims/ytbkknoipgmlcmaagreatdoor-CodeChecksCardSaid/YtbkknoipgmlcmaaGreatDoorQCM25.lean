import Derived.WalkKit
import Derived.KernelRfl
import Derived.Laws.Externs
import Derived.Laws.BitsLemmas
import Derived.Test.YtbkknoipgmlcmaaGreatDoorQCM23
import Derived.Test.YtbkknoipgmlcmaaGreatDoorQCM24
import Derived.Test.YtbkknoipgmlcmaaGreatDoorQCM10
set_option linter.unusedVariables false
set_option linter.unusedSimpArgs false
set_option maxHeartbeats 8000000
set_option maxRecDepth 100000
namespace Go.Proofs.YtbkknoipgmlcmaaGreatDoor.P
open Go.RowKit Go.Proofs.YtbkknoipgmlcmaaGreatDoorW.PrintWords Go.Proofs.YtbkknoipgmlcmaaGreatDoorW.PrintLast Go.Proofs.YtbkknoipgmlcmaaGreatDoorW.PrintMore
def goodB (l : List Int) : Bool := decide (l.length ≤ 128) && decide (l = [] ∨ l.getD (l.length - 1) 0 ≠ 0)
def ratS (i4 : Int) (i5 : Bool) (i6 i7 : List Int) : Bool :=
 if i4 = 0 then goodB i6 && (goodB i7 && (!i7.isEmpty && (!(i5 && i6.isEmpty) && decide (gcdL i6 i7 = [1]))))
 else decide (i4 = 4 ∨ i4 = 11) && (!i5 && (i6.isEmpty && i7.isEmpty))
theorem goodB_can {l : List Int} (h : dOk l) (hg : goodB l = true) : dCan l ∧ l.length ≤ 128 := by
 unfold goodB at hg
 rw [Bool.and_eq_true, decide_eq_true_eq, decide_eq_true_eq] at hg
 refine ⟨⟨h, fun hn => ?_⟩, hg.1⟩
 have hl := List.length_pos_iff.2 hn
 rw [last_getD (n := l.length - 1) (by omega) hn]
 exact hg.2.resolve_left hn
theorem last_wrap {l : List Int} (hb : l.length ≤ 1000) (h0 : l ≠ []) : wrap64 ((l.length : Int) - 1) = ((l.length - 1 : Nat) : Int) ∧ 0 < l.length := by
 have hl := List.length_pos_iff.2 h0
 exact ⟨by rw [d64 (by omega) (by omega)]; omega, hl⟩
def formS (l : List Int) : Int := if l.length > 512 then 3 else if l = [] ∨ l.getD (l.length - 1) 0 ≠ 0 then 0 else 5
theorem form_ev {l : List Int} (hb : l.length ≤ 1000) : Ev (fun k => nat_form.f k [l]) (formS l) := by
 have hend : Ev (fun k => nat_form.l0 k [l] 1 1) 0 := by
  refine Ev.step (f := fun _ => some 0) (fun k => ?_) (Ev.now _)
  simp only [nat_form.l0]
  rw [if_neg (by decide)]
 have e0 : rd_L7 [l] 0 = l := rfl
 have c1 : (0 : Int) < (([l] : List (List Int)).length : Int) := by show (0 : Int) < 1; decide
 have e1 : wrap64 ((0 : Int) + 1) = 1 := by rw [d64 (by decide) (by decide)]; rfl
 show Ev (fun k => nat_form.l0 k [l] 1 0) (formS l)
 unfold formS
 by_cases h1 : l.length > 512
 ·rw [if_pos h1]
  refine Ev.step (f := fun _ => some 3) (fun k => ?_) (Ev.now _)
  simp only [nat_form.l0, e0]
  rw [if_pos (by decide), if_pos (by decide), if_pos c1, if_pos (by omega)]
 rw [if_neg h1]
 by_cases h2 : l = []
 ·rw [if_pos (.inl h2)]
  subst h2
  refine Ev.step (fun k => ?_) hend
  simp only [nat_form.l0, e0, e1]
  rw [if_pos (by decide), if_pos (by decide), if_pos (by decide), if_neg (by decide), if_neg (by decide)]
 ·obtain ⟨e2, hl⟩ := last_wrap hb h2
  by_cases h3 : l.getD (l.length - 1) 0 = 0
  ·rw [if_neg (fun h => h.elim h2 (fun h => h h3))]
   refine Ev.step (f := fun _ => some 5) (fun k => ?_) (Ev.now _)
   simp only [nat_form.l0, e0, e2, rd_nat]
   rw [if_pos (by decide), if_pos (by decide), if_pos c1, if_neg (by omega), if_pos (by omega), if_pos (by omega), if_pos (by omega), if_pos h3]
  ·rw [if_pos (.inr h3)]
   refine Ev.step (fun k => ?_) hend
   simp only [nat_form.l0, e0, e1, e2, rd_nat]
   rw [if_pos (by decide), if_pos (by decide), if_pos c1, if_neg (by omega), if_pos (by omega), if_pos (by omega), if_pos (by omega), if_neg h3]
theorem form_can {l : List Int} (h : dOk l) (hf : formS l = 0) : dCan l := by
 unfold formS at hf
 by_cases h1 : l.length > 512
 ·rw [if_pos h1] at hf; cases hf
 ·rw [if_neg h1] at hf
  by_cases h2 : l = [] ∨ l.getD (l.length - 1) 0 ≠ 0
  ·refine ⟨h, fun hn => ?_⟩
   have hl := List.length_pos_iff.2 hn
   rw [last_getD (n := l.length - 1) (by omega) hn]
   exact h2.resolve_left hn
  ·rw [if_neg h2] at hf; cases hf
theorem long_ev {l : List Int} (hb : l.length ≤ 1000) (h : dOk l) (hf : formS l = 0) : Ev (fun k => frac_long.f k l) (decide (l.length > 128)) := by
 have hsz : ∃ z : Int, nat_size.f l = some z ∧ (z > 4096 ↔ l.length > 128) := by
  unfold nat_size.f
  by_cases h2 : l = []
  ·subst h2
   exact ⟨0, rfl, by decide⟩
  ·obtain ⟨e2, hl⟩ := last_wrap hb h2
   have ht := (dCan_top (form_can h hf) (n := l.length - 1) (by omega)).2
   have hg := getD_digit h (l.length - 1)
   obtain ⟨m, hm, m1, m2⟩ := len32_at (a := l.getD (l.length - 1) 0) (by omega) hg.2
   refine ⟨32 * ((l.length - 1 : Nat) : Int) + m, ?_, by omega⟩
   have c0 : ¬ (l.length : Int) = 0 := by omega
   have c1 : (0 : Int) ≤ ((l.length - 1 : Nat) : Int) := by omega
   have c2 : ((l.length - 1 : Nat) : Int) < (l.length : Int) := by omega
   have c3 : wrap64 (32 * ((l.length - 1 : Nat) : Int)) = 32 * ((l.length - 1 : Nat) : Int) := d64 (by omega) (by omega)
   have c4 : wrap64 (32 * ((l.length - 1 : Nat) : Int) + m) = 32 * ((l.length - 1 : Nat) : Int) + m := d64 (by omega) (by omega)
   rw [e2, if_neg c0, if_pos c1, if_pos c2, rd_nat, hm, Option.bind_some, c3, c4]
 obtain ⟨z, hz, hzi⟩ := hsz
 have hB : Ev (fun k => nat_Bits.f k l) (z, (0 : Int)) := by
  refine Ev.bind (f := fun _ t => if t = 0 then ((nat_size.f l).bind fun t180 => (some (t180, (0 : Int)))) else (some ((0 : Int), t))) (form_ev hb) ?_
  rw [hf]
  refine Ev.congr (f := fun _ => some (z, (0 : Int))) (fun k => ?_) (Ev.now _)
  rw [if_pos rfl, hz]
  rfl
 refine Ev.bind (f := fun _ t => if t.2 = 0 then (some (decide (t.1 > 4096))) else (some true)) hB ?_
 refine Ev.congr (f := fun _ => some (decide (l.length > 128))) (fun k => ?_) (Ev.now _)
 rw [if_pos rfl]
 congr 1
 exact decide_eq_decide.2 hzi
theorem isNat_ev {l : List Int} (hb : l.length ≤ 1000) : Ev (fun k => nat_IsNat.f k l) (formS l == 0) := Ev.bind (f := fun _ t => some (t == 0)) (form_ev hb) (Ev.now _)
theorem good_form {l : List Int} : goodB l = ((formS l == 0) && !decide (l.length > 128)) := by
 unfold goodB formS
 by_cases h1 : l.length > 512
 ·rw [if_pos h1, show decide (l.length ≤ 128) = false from decide_eq_false (by omega)]
  rfl
 ·rw [if_neg h1]
  by_cases h2 : l = [] ∨ l.getD (l.length - 1) 0 ≠ 0
  ·rw [if_pos h2, decide_eq_true h2, Bool.and_true]
   by_cases h3 : l.length ≤ 128
   ·rw [decide_eq_true h3, decide_eq_false (show ¬ l.length > 128 by omega)]
    rfl
   ·rw [decide_eq_false h3, decide_eq_true (show l.length > 128 by omega)]
    rfl
  ·rw [if_neg h2, decide_eq_false h2, Bool.and_false]
   rfl
theorem one_ask (g : List Int) : (if (g.length : Int) = 1 then (if 0 < (g.length : Int) then (some ((rd g 0) == 1)) else (none)) else (some false)) = some (decide (g = [1])) := by
 by_cases h : (g.length : Int) = 1
 ·rw [if_pos h, if_pos (by omega)]
  obtain ⟨a, rfl⟩ := List.length_eq_one_iff.1 (show g.length = 1 by omega)
  congr 1
  show (a == 1) = decide ([a] = [1])
  by_cases ha : a = 1
  ·subst ha; rfl
  ·rw [decide_eq_false (by simpa using ha)]
   simpa using ha
 ·rw [if_neg h, decide_eq_false (fun h2 => h (by rw [h2]; rfl))]
theorem form2_ev {x y : List Int} (hx : x.length ≤ 1000) (hy : y.length ≤ 1000) (fx : formS x = 0) (fy : formS y = 0) : Ev (fun k => nat_form.f k [x, y]) 0 := by
 have hend : Ev (fun k => nat_form.l0 k [x, y] 2 2) 0 := by
  refine Ev.step (f := fun _ => some 0) (fun k => ?_) (Ev.now _)
  simp only [nat_form.l0]
  rw [if_neg (by decide)]
 have key : ∀ (i : Nat) (l : List Int), i < 2 → rd_L7 [x, y] (i : Int) = l → l.length ≤ 1000 → formS l = 0 → Ev (fun k => nat_form.l0 k [x, y] 2 ((i + 1 : Nat) : Int)) 0 → Ev (fun k => nat_form.l0 k [x, y] 2 (i : Int)) 0 := by
  intro i l hi e0 hb hf hn
  have e1 : wrap64 ((i : Int) + 1) = ((i + 1 : Nat) : Int) := by rw [d64 (by omega) (by omega)]; omega
  have c0 : (i : Int) < 2 := by omega
  have c1 : (0 : Int) ≤ (i : Int) := by omega
  have c2 : (i : Int) < (([x, y] : List (List Int)).length : Int) := by show (i : Int) < 2; omega
  refine Ev.step (fun k => ?_) hn
  unfold formS at hf
  by_cases h1 : l.length > 512
  ·rw [if_pos h1] at hf; cases hf
  ·rw [if_neg h1] at hf
   by_cases h2 : l = []
   ·subst h2
    simp only [nat_form.l0, e0, e1]
    rw [if_pos c0, if_pos c1, if_pos c2, if_neg (by decide), if_neg (by decide)]
   ·have h3 : l.getD (l.length - 1) 0 ≠ 0 := by
     intro h3
     rw [if_neg (fun h => h.elim h2 (fun h => h h3))] at hf
     cases hf
    obtain ⟨e2, hl⟩ := last_wrap hb h2
    simp only [nat_form.l0, e0, e1, e2, rd_nat]
    rw [if_pos c0, if_pos c1, if_pos c2, if_neg (by omega), if_pos (by omega), if_pos (by omega), if_pos (by omega), if_neg h3]
 exact key 0 x (by decide) rfl hx fx (key 1 y (by decide) rfl hy fy hend)
theorem gcdN_ev {x y : List Int} (bx : x.length ≤ 1000) (by_ : y.length ≤ 1000) (hx : dCan x) (hy : dCan y) (fx : formS x = 0) (fy : formS y = 0) : Ev (fun k => nat_Gcd.f k x y) (gcdL x y, (0 : Int)) := by
 refine Ev.bind (f := fun _ t => if t = 0 then ((nat_gcd.f x y).bind fun t187 => (some (t187, (0 : Int)))) else (some (([] : List Int), t))) (form2_ev bx by_ fx fy) ?_
 refine Ev.congr (f := fun _ => some (gcdL x y, (0 : Int))) (fun k => ?_) (Ev.now _)
 rw [if_pos rfl]
 unfold nat_gcd.f
 rw [if_pos ⟨dCanB_iff.2 hx, dCanB_iff.2 hy, bx, by_⟩]
 rfl
theorem empty_len {l : List Int} : l.isEmpty = decide ((l.length : Int) = 0) := by
 cases l with
 | nil => rfl
 | cons a l => rw [decide_eq_false (by simp only [List.length_cons]; omega)]; rfl
theorem fracRat_ev (i4 : Int) (i5 : Bool) {i6 i7 : List Int} (b6 : i6.length ≤ 1000) (b7 : i7.length ≤ 1000) (h6 : dOk i6) (h7 : dOk i7) : Ev (fun k => frac_IsRat.f k i4 i5 i6 i7) (ratS i4 i5 i6 i7) := by
 unfold frac_IsRat.f ratS
 by_cases h0 : i4 = 0; rotate_left
 ·rw [if_neg h0]
  refine Ev.congr (fun k => if_neg h0) ?_
  have hfa : frac_isFault.f i4 = some (decide (i4 = 4 ∨ i4 = 11)) := by
   unfold frac_isFault.f
   by_cases a : i4 = 4
   ·rw [if_pos a, decide_eq_true (.inl a)]
   ·rw [if_neg a]
    congr 1
    by_cases b : i4 = 11
    ·rw [decide_eq_true (.inr b)]; simpa using b
    ·rw [decide_eq_false (fun h => h.elim a b)]; simpa using b
  refine Ev.congr (fun k => by rw [hfa, Option.bind_some]) ?_
  cases decide (i4 = 4 ∨ i4 = 11) with
  | false => exact Ev.congr (fun k => if_neg Bool.false_ne_true) (Ev.now _)
  | true =>
   refine Ev.congr (fun k => if_pos rfl) ?_
   cases i5 with
   | true => exact Ev.congr (fun k => if_pos rfl) (Ev.now _)
   | false =>
    refine Ev.congr (f := fun _ => some (true && (!false && (i6.isEmpty && i7.isEmpty)))) (fun k => ?_) (Ev.now _)
    rw [if_neg Bool.false_ne_true, d64 (by omega) (by omega)]
    congr 1
    cases i6 with
    | nil => cases i7 with
     | nil => rfl
     | cons b l7 => show ((((0 : Nat) : Int) + ((b :: l7).length : Int)) == 0) = false; rw [beq_eq_false_iff_ne]; simp only [List.length_cons]; omega
    | cons a l6 => show ((((a :: l6).length : Int) + (i7.length : Int)) == 0) = false; rw [beq_eq_false_iff_ne]; simp only [List.length_cons]; omega
 rw [if_pos h0]
 refine Ev.congr (fun k => if_pos h0) ?_
 refine Ev.bind (g := fun k => nat_IsNat.f k i6) (isNat_ev b6) ?_
 rw [good_form, good_form]
 cases f6 : (formS i6 == 0) with
 | false => exact Ev.congr (fun k => if_neg Bool.false_ne_true) (Ev.now _)
 | true =>
  refine Ev.congr (fun k => if_pos rfl) ?_
  refine Ev.bind (g := fun k => nat_IsNat.f k i7) (isNat_ev b7) ?_
  cases f7 : (formS i7 == 0) with
  | false => rw [Bool.false_and, Bool.false_and, Bool.and_false]; exact Ev.congr (fun k => if_neg Bool.false_ne_true) (Ev.now _)
  | true =>
   have g6 : formS i6 = 0 := by simpa using f6
   have g7 : formS i7 = 0 := by simpa using f7
   refine Ev.congr (fun k => if_pos rfl) ?_
   refine Ev.bind (g := fun k => frac_long.f k i6) (long_ev b6 h6 g6) ?_
   cases l6 : decide (i6.length > 128) with
   | true => exact Ev.congr (fun k => if_pos rfl) (Ev.now _)
   | false =>
    refine Ev.congr (fun k => if_neg Bool.false_ne_true) ?_
    refine Ev.bind (g := fun k => frac_long.f k i7) (long_ev b7 h7 g7) ?_
    cases l7 : decide (i7.length > 128) with
    | true => exact Ev.congr (fun k => if_pos rfl) (Ev.now _)
    | false =>
     refine Ev.congr (fun k => if_neg Bool.false_ne_true) ?_
     have hG := gcdN_ev b6 b7 (form_can h6 g6) (form_can h7 g7) g6 g7
     have hA : Ev (fun k => (nat_Gcd.f k i6 i7).bind fun bt196 => (if (bt196.1.length : Int) = 1 then (if 0 < (bt196.1.length : Int) then (some ((rd bt196.1 0) == 1)) else (none)) else (some false))) (decide (gcdL i6 i7 = [1])) := by
      refine Ev.bind (f := fun _ (bt196 : List Int × Int) => (if (bt196.1.length : Int) = 1 then (if 0 < (bt196.1.length : Int) then (some ((rd bt196.1 0) == 1)) else (none)) else (some false))) hG ?_
      exact Ev.congr (f := fun _ => some (decide (gcdL i6 i7 = [1]))) (fun k => one_ask _) (Ev.now _)
     by_cases e7 : (i7.length : Int) = 0
     ·rw [empty_len, decide_eq_true e7]
      exact Ev.congr (fun k => if_pos e7) (Ev.now _)
     ·rw [empty_len, decide_eq_false e7]
      refine Ev.congr (fun k => if_neg e7) ?_
      cases i5 with
      | false =>
       exact Ev.congr (fun k => if_neg Bool.false_ne_true) hA
      | true =>
       refine Ev.congr (fun k => if_pos rfl) ?_
       by_cases e6 : (i6.length : Int) = 0
       ·rw [empty_len, decide_eq_true e6]
        exact Ev.congr (fun k => if_pos e6) (Ev.now _)
       ·rw [empty_len, decide_eq_false e6]
        exact Ev.congr (fun k => if_neg e6) hA
theorem rgood {l : List Int} (hb : l.length ≤ 1000) : fluxionref02_good.f l = some (goodB l) := by
 unfold fluxionref02_good.f goodB
 by_cases h1 : l.length ≤ 128
 ·rw [if_pos (by omega), decide_eq_true h1, Bool.true_and]
  by_cases h2 : l = []
  ·rw [decide_eq_true (.inl h2), h2]
   rfl
  ·obtain ⟨e2, hl⟩ := last_wrap hb h2
   rw [if_neg (by omega), e2, if_pos (by omega), if_pos (by omega), rd_nat]
   congr 1
   by_cases h3 : l.getD (l.length - 1) 0 = 0
   ·rw [decide_eq_false (fun h => h.elim h2 (fun h => h h3)), h3]
    rfl
   ·rw [decide_eq_true (.inr h3)]
    simpa using h3
 ·rw [if_neg (by omega), decide_eq_false h1, Bool.false_and]
theorem refRat_ev (i4 : Int) (i5 : Bool) {i6 i7 : List Int} (b6 : i6.length ≤ 1000) (b7 : i7.length ≤ 1000) (h6 : dOk i6) (h7 : dOk i7) : Ev (fun k => fluxionref02_IsRat.f k i4 i5 i6 i7) (ratS i4 i5 i6 i7) := by
 unfold fluxionref02_IsRat.f ratS
 rw [rgood b6, rgood b7]
 simp only [Option.bind_some]
 by_cases h0 : i4 = 0; rotate_left
 ·rw [if_neg h0]
  have hz : ((i7.length : Int) == 0) = i7.isEmpty := by rw [empty_len]; rfl
  have hend : ∀ d : Bool, d = true → Ev (fun (_ : Nat) => if i5 = true then some false else if (i6.length : Int) = 0 then some ((i7.length : Int) == 0) else some false) (d && (!i5 && (i6.isEmpty && i7.isEmpty))) := by
   intro d hd
   subst hd
   cases i5 with
   | true => exact Ev.congr (fun k => if_pos rfl) (Ev.now _)
   | false =>
    refine Ev.congr (fun k => if_neg Bool.false_ne_true) ?_
    by_cases e6 : (i6.length : Int) = 0
    ·rw [empty_len (l := i6), decide_eq_true e6, ← hz]
     exact Ev.congr (fun k => if_pos e6) (Ev.now _)
    ·rw [empty_len (l := i6), decide_eq_false e6]
     exact Ev.congr (fun k => if_neg e6) (Ev.now _)
  refine Ev.congr (fun k => if_neg h0) ?_
  by_cases a : i4 = 4
  ·refine Ev.congr (fun k => if_pos a) ?_
   exact hend _ (decide_eq_true (.inl a))
  ·refine Ev.congr (fun k => if_neg a) ?_
   by_cases b : i4 = 11
   ·refine Ev.congr (fun k => if_pos b) ?_
    exact hend _ (decide_eq_true (.inr b))
   ·rw [decide_eq_false (fun h => h.elim a b)]
    exact Ev.congr (fun k => if_neg b) (Ev.now _)
 rw [if_pos h0]
 refine Ev.congr (fun k => if_pos h0) ?_
 cases f6 : goodB i6 with
 | false => exact Ev.congr (fun k => if_neg Bool.false_ne_true) (Ev.now _)
 | true =>
  refine Ev.congr (fun k => if_pos rfl) ?_
  cases f7 : goodB i7 with
  | false => exact Ev.congr (fun k => if_neg Bool.false_ne_true) (Ev.now _)
  | true =>
   refine Ev.congr (fun k => if_pos rfl) ?_
   obtain ⟨c6, l6⟩ := goodB_can h6 f6
   obtain ⟨c7, l7⟩ := goodB_can h7 f7
   by_cases e7 : (i7.length : Int) = 0
   ·rw [empty_len (l := i7), decide_eq_true e7]
    exact Ev.congr (fun k => if_pos e7) (Ev.now _)
   have hG := rgcd_ev 128 (by decide) c6 c7 (fun h => e7 (by rw [h]; rfl)) l6 l7
   have hA : Ev (fun k => (fluxionref01_Gcd.f k i6 i7).bind fun t328 => (if (t328.length : Int) = 1 then (if 0 < (t328.length : Int) then (some ((rd t328 0) == 1)) else (none)) else (some false))) (decide (gcdL i6 i7 = [1])) := by
    refine Ev.bind (f := fun _ (t328 : List Int) => (if (t328.length : Int) = 1 then (if 0 < (t328.length : Int) then (some ((rd t328 0) == 1)) else (none)) else (some false))) hG ?_
    exact Ev.congr (f := fun _ => some (decide (gcdL i6 i7 = [1]))) (fun k => one_ask _) (Ev.now _)
   rw [empty_len (l := i7), decide_eq_false e7]
   refine Ev.congr (fun k => if_neg e7) ?_
   cases i5 with
   | false => exact Ev.congr (fun k => if_neg Bool.false_ne_true) hA
   | true =>
    refine Ev.congr (fun k => if_pos rfl) ?_
    by_cases e6 : (i6.length : Int) = 0
    ·rw [empty_len, decide_eq_true e6]
     exact Ev.congr (fun k => if_pos e6) (Ev.now _)
    ·rw [empty_len, decide_eq_false e6]
     exact Ev.congr (fun k => if_neg e6) hA
theorem isRat_calls (i4 : Int) (i5 : Bool) (A6 : Option Addr) (c6 : Nat) (i6 : List Int) (A7 : Option Addr) (c7 : Nat) (i7 : List Int) (w : World) (hr6 : Kd.C (Kd.int .u32) w A6 i6.length i6) (hc6 : i6.length ≤ c6) (hr7 : Kd.C (Kd.int .u32) w A7 i7.length i7) (hc7 : i7.length ≤ c7)
 (b6 : i6.length ≤ 1000) (b7 : i7.length ≤ 1000) (h6 : dOk i6) (h7 : dOk i7) : Calls Tryz.prog 140 #[.agg #[.int .i64 i4, .bool i5, .slice A6 i6.length c6, .slice A7 i7.length c7]] w fun e w' => e = .returned (.bool (ratS i4 i5 i6 i7)) ∧ Below w.heap.size w w' := by
 obtain ⟨k, hk⟩ := (fracRat_ev i4 i5 b6 b7 h6 h7).rounds
 exact frac_IsRat.calls k i4 i5 A6 c6 i6 A7 c7 i7 _ w hr6 hc6 hr7 hc7 hk
end Go.Proofs.YtbkknoipgmlcmaaGreatDoor.P

namespace Go.Proofs.YtbkknoipgmlcmaaGreatDoor.P
open Go.RowKit Go.Proofs.YtbkknoipgmlcmaaGreatDoorW.PrintWords Go.Proofs.YtbkknoipgmlcmaaGreatDoorW.PrintLast Go.Proofs.YtbkknoipgmlcmaaGreatDoorW.PrintMore
open Go.Proofs.FX
theorem uses_calls (r1 : ByteArray) (r2 r3 r4 : Int) (r5 : Bool) (r6 r7 : Int) (w : World) :
 Calls Tryz.prog 42 #[.agg #[.string r1, .int .i64 r2, .int .i64 r3, .int .i64 r4, .bool r5, .int .i64 r6, .int .i64 r7]] w fun e w' => e = .returned (.agg #[.int .i64 r2, .int .i64 r3, .int .i64 r4]) ∧ Below w.heap.size w w' := by
 have hu72 := Tryz.underlying72
 go_enter Tryz.func42, Tryz.ntmps42
 go_wp2
 refine bodyPost_ret (by simp [results, Tryz.results42, go_sem]) rfl ⟨rfl, ?_⟩
 repeat (first | exact Below.refl _ _ | apply below_alloc | apply pw_below_drewN | apply below_drew1)
theorem fields_calls (b : Nat) (w : World) :
 Calls Tryz.prog 43 #[.pointer (some ⟨b, 0, none⟩)] w fun e w' => e = .returned (.agg #[.pointer (some ⟨b, 1, none⟩), .pointer (some ⟨b, 2, none⟩), .pointer (some ⟨b, 3, none⟩)]) ∧ Below w.heap.size w w' := by
 have hu63 := Tryz.underlying63
 go_enter Tryz.func43, Tryz.ntmps43
 go_wp2
 go_region
 try go_wp2
 refine bodyPost_ret (by simp [results, Tryz.results43, go_sem]) rfl ⟨rfl, ?_⟩
 exact (below_alloc (Below.refl _ _) _).drew
def code_uses.f (_ : ByteArray) (a1 a2 a3 : Int) (_ : Bool) (_ _ : Int) : Option (Int × Int × Int) := some (a1, a2, a3)
theorem code_uses.calls (a0 : ByteArray) (a1 a2 a3 : Int) (a4 : Bool) (a5 a6 : Int) (r1 r2 r3 : Int) (w : World) (h : code_uses.f a0 a1 a2 a3 a4 a5 a6 = some (r1, r2, r3)) :
 Calls Tryz.prog 42 #[.agg #[.string a0, .int .i64 a1, .int .i64 a2, .int .i64 a3, .bool a4, .int .i64 a5, .int .i64 a6]] w fun e w' => e = .returned (.agg #[.int .i64 r1, .int .i64 r2, .int .i64 r3]) ∧ Below w.heap.size w w' := by
 unfold code_uses.f at h
 simp only [Option.some.injEq, Prod.mk.injEq] at h
 obtain ⟨rfl, rfl, rfl⟩ := h
 exact uses_calls a0 a1 a2 a3 a4 a5 a6 w
def code_fields.f : Option Int := some 0
end Go.Proofs.YtbkknoipgmlcmaaGreatDoor.P

