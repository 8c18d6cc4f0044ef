import Derived.KernelRfl
import Derived.Test.YtbkknoipgmlcmaaGreatDoorQCM30
set_option linter.unusedVariables false
set_option linter.unusedSimpArgs false
set_option maxRecDepth 100000
namespace Go.Proofs.YtbkknoipgmlcmaaGreatDoor.P
open Go.RowKit Go.Proofs.YtbkknoipgmlcmaaGreatDoorW.PrintWords Go.Proofs.YtbkknoipgmlcmaaGreatDoorW.PrintLast Go.Proofs.YtbkknoipgmlcmaaGreatDoorW.PrintMore
open Go.Proofs.FX
def gB (u n : Int) : Bool := if u = 0 then decide (n = 0) else if u = 5 then decide (n = 0 ∨ n = 1) else if u = 6 then decide (-1 ≤ n ∧ n ≤ 8) else if u = 7 then decide (1 ≤ n ∧ n ≤ 8) else if u = 8 then decide (n = 1 ∨ n = -1) else true
theorem given_f (u n : Int) : fluxionref29_given.f u n = some (gB u n) := by
 unfold fluxionref29_given.f gB
 have e : ∀ a b : Int, (a == b) = decide (a = b) := fun a b => rfl
 simp only [e]
 by_cases h0 : u = 0
 ·rw [if_pos h0, if_pos h0]
 rw [if_neg h0, if_neg h0]
 by_cases h5 : u = 5
 ·rw [if_pos h5, if_pos h5]
  by_cases h : n = 0
  ·rw [if_pos h, dT (.inl h)]
  ·rw [if_neg h]; congr 1; exact decide_eq_decide.2 (by omega)
 rw [if_neg h5, if_neg h5]
 by_cases h6 : u = 6
 ·rw [if_pos h6, if_pos h6]
  by_cases h : n ≥ -1
  ·rw [if_pos h]; congr 1; exact decide_eq_decide.2 (by omega)
  ·rw [if_neg h, dF (by omega)]
 rw [if_neg h6, if_neg h6]
 by_cases h7 : u = 7
 ·rw [if_pos h7, if_pos h7]
  by_cases h : n ≥ 1
  ·rw [if_pos h]; congr 1; exact decide_eq_decide.2 (by omega)
  ·rw [if_neg h, dF (by omega)]
 rw [if_neg h7, if_neg h7]
 by_cases h8 : u = 8
 ·rw [if_pos h8, if_pos h8]
  by_cases h : n = 1
  ·rw [if_pos h, dT (.inl h)]
  ·rw [if_neg h]; congr 1; exact decide_eq_decide.2 (by omega)
 rw [if_neg h8, if_neg h8]
def opEq (op s f lo hi : Int) : Prop := ∀ i : Int, okF s i op lo hi = gB f i
theorem opEq_0 (op lo hi : Int) : opEq op 0 0 lo hi := fun i => rfl
theorem opEq_any {op s f lo hi : Int} (h1 : s ≠ 0) (h2 : s ≠ 3) (h3 : f ≠ 0) (h5 : f ≠ 5) (h6 : f ≠ 6) (h7 : f ≠ 7) (h8 : f ≠ 8) : opEq op s f lo hi := fun i => by
 unfold okF gB
 rw [if_neg h1, if_neg h2, if_neg h3, if_neg h5, if_neg h6, if_neg h7, if_neg h8]
theorem opEq_num {op f lo hi : Int} (h : ∀ i : Int, (if i < lo then false else if i > hi then false else if op = 19 then !decide (i = 0) else true) = gB f i) : opEq op 3 f lo hi := fun i => by
 unfold okF
 rw [if_neg (by decide), if_pos rfl]
 exact h i
theorem num_in {op lo hi : Int} (h : op ≠ 19) (i : Int) : (if i < lo then false else if i > hi then false else if op = 19 then !decide (i = 0) else true) = decide (lo ≤ i ∧ i ≤ hi) := by
 rw [if_neg h]
 by_cases h1 : i < lo
 ·rw [if_pos h1, dF (by omega)]
 rw [if_neg h1]
 by_cases h2 : i > hi
 ·rw [if_pos h2, dF (by omega)]
 rw [if_neg h2, dT (by omega)]
theorem opEq_5 {op : Int} (h : op ≠ 19) : opEq op 3 5 0 1 := opEq_num fun i => by
 rw [num_in h]; exact decide_eq_decide.2 (by omega)
theorem opEq_6 {op : Int} (h : op ≠ 19) : opEq op 3 6 (-1) 8 := opEq_num fun i => by
 rw [num_in h]; exact decide_eq_decide.2 (by omega)
theorem opEq_7 {op : Int} (h : op ≠ 19) : opEq op 3 7 1 8 := opEq_num fun i => by
 rw [num_in h]; exact decide_eq_decide.2 (by omega)
theorem opEq_8 : opEq 19 3 8 (-1) 1 := opEq_num fun i => by
 show _ = decide (i = 1 ∨ i = -1)
 by_cases h1 : i < -1
 ·rw [if_pos h1, dF (by omega)]
 rw [if_neg h1]
 by_cases h2 : i > 1
 ·rw [if_pos h2, dF (by omega)]
 rw [if_neg h2, if_pos rfl]
 by_cases h3 : i = 0
 ·rw [dT h3, dF (by omega)]; rfl
 ·rw [dF h3, dT (by omega)]; rfl
theorem op_cases {n : Int} (h1 : 1 ≤ n) (h2 : n < 27) : n = 1 ∨ n = 2 ∨ n = 3 ∨ n = 4 ∨ n = 5 ∨ n = 6 ∨ n = 7 ∨ n = 8 ∨ n = 9 ∨ n = 10 ∨ n = 11 ∨ n = 12 ∨ n = 13 ∨ n = 14 ∨ n = 15 ∨ n = 16 ∨ n = 17 ∨ n = 18 ∨ n = 19 ∨ n = 20 ∨ n = 21 ∨ n = 22 ∨ n = 23 ∨ n = 24 ∨ n = 25 ∨ n = 26 := by omega
def useEq (op s f : Int) (j : Nat) : Prop :=
 (s = 1 ∧ f = 1) ∨ (s = 2 ∧ f = 2) ∨ (s = 7 ∧ f = 3 ∧ j = 1) ∨ (s = 6 ∧ f = 4 ∧ j = 1 ∧ op = 26) ∨ (s = 4 ∧ f = 4 ∧ j = 2 ∧ op = 25) ∨ (s = 5 ∧ f = 4 ∧ j = 3 ∧ op = 25) ∨ ((s = 0 ∨ s = 3) ∧ (f = 0 ∨ 5 ≤ f))
theorem rows_same {n : Int} (h1 : 1 ≤ n) (h2 : n < 27) : ∃ nm s1 s2 s3 s4 s5 s6 nm2 f1 f2 f3, code_of.f n = some (nm, s1, s2, s3, s4, s5, s6, true) ∧ fluxionref29_Of.f n = some (nm2, f1, f2, f3, s4, true) ∧
 (opEq n s1 f1 s5 s6 ∧ opEq n s2 f2 s5 s6 ∧ opEq n s3 f3 s5 s6) ∧ (useEq n s1 f1 1 ∧ useEq n s2 f2 2 ∧ useEq n s3 f3 3) ∧ (n = 25 → f1 = 3) := by
 rcases op_cases h1 h2 with rfl | rfl | rfl | rfl | rfl | rfl | rfl | rfl | rfl | rfl | rfl | rfl | rfl | rfl | rfl | rfl | rfl | rfl | rfl | rfl | rfl | rfl | rfl | rfl | rfl | rfl
 all_goals refine ⟨_, _, _, _, _, _, _, _, _, _, _, rfl, rfl, ⟨?_, ?_, ?_⟩, ⟨?_, ?_, ?_⟩, by decide⟩
 all_goals first
  | exact opEq_0 _ _ _
  | exact opEq_any (by decide) (by decide) (by decide) (by decide) (by decide) (by decide) (by decide)
  | exact opEq_5 (by decide)
  | exact opEq_6 (by decide)
  | exact opEq_7 (by decide)
  | exact opEq_8
  | (unfold useEq; decide)
theorem rows_none {n : Int} (h : n < 1 ∨ 27 ≤ n) : (∃ nm s1 s2 s3 s4 s5 s6, code_of.f n = some (nm, s1, s2, s3, s4, s5, s6, false)) ∧ ∃ nm2 f1 f2 f3 f4, fluxionref29_Of.f n = some (nm2, f1, f2, f3, f4, false) := by
 constructor
 ·unfold code_of.f
  rw [if_neg (by omega)]
  exact ⟨_, _, _, _, _, _, _, rfl⟩
 ·unfold fluxionref29_Of.f fluxionref29_forms.f
  rw [Option.bind_some]
  by_cases h1 : n < 1
  ·rw [if_pos h1]; exact ⟨_, _, _, _, _, rfl⟩
  ·rw [if_neg h1, if_pos (show n ≥ _ from by show (27 : Int) ≤ n; omega)]; exact ⟨_, _, _, _, _, rfl⟩
theorem okR_room {slots m n : Int} (h1 : 1 ≤ slots) (h2 : slots ≤ 8192) (m0 : 0 ≤ m) (m1 : m ≤ 100000) : okR slots m n = (decide (0 ≤ n) && (decide (n ≤ slots) && decide (m ≤ wrap64 (slots - n)))) := by
 have w1 : wrap64 (slots - m) = slots - m := by unfold wrap64; omega
 unfold okR
 rw [w1]
 by_cases a : n < 0
 ·rw [if_pos a, dF (by omega), Bool.false_and]
 rw [if_neg a, dT (show 0 ≤ n by omega), Bool.true_and]
 by_cases b : n ≤ slots
 ·have w2 : wrap64 (slots - n) = slots - n := by unfold wrap64; omega
  rw [w2, dT b, Bool.true_and]
  by_cases c : n > slots - m
  ·rw [if_pos c, dF (by omega)]
  ·rw [if_neg c, dT (by omega)]
 ·rw [dF b, Bool.false_and, if_pos (by omega)]
theorem okR_one {slots n : Int} (h1 : 1 ≤ slots) (h2 : slots ≤ 8192) : okR slots 1 n = (decide (0 ≤ n) && decide (n < slots)) := by
 have w1 : wrap64 (slots - 1) = slots - 1 := by unfold wrap64; omega
 unfold okR
 rw [w1]
 by_cases a : n < 0
 ·rw [if_pos a, dF (by omega), Bool.false_and]
 rw [if_neg a, dT (show 0 ≤ n by omega), Bool.true_and]
 by_cases c : n > slots - 1
 ·rw [if_pos c, dF (by omega)]
 ·rw [if_neg c, dT (by omega)]
theorem in_row {n b : Int} : (if n < 0 then false else if n ≥ b then false else true) = (decide (0 ≤ n) && decide (n < b)) := by
 by_cases a : n < 0
 ·rw [if_pos a, dF (by omega), Bool.false_and]
 rw [if_neg a, dT (show 0 ≤ n by omega), Bool.true_and]
 by_cases c : n ≥ b
 ·rw [if_pos c, dF (by omega)]
 ·rw [if_neg c, dT (by omega)]
def smallAll (l : List S50) : Prop := ∀ i : Int, 0 ≤ i → i < (l.length : Int) → smallB (rd_T50 l i) = true
def manyJ (l : List S50) (a1 op i1 : Int) (j : Nat) : Int := if j = 1 then knA l a1 op else if j = 2 then knB l a1 op i1 else knC l a1 op i1
theorem use_same {op s f : Int} {j : Nat} (l : List S50) (a1 i1 n : Int) (h : useEq op s f j) (hl : smallAll l) (a0 : 0 ≤ a1) (a2 : a1 < (l.length : Int)) (h1 : 1 ≤ (rd_T50 l a1).f3) (h2 : (rd_T50 l a1).f3 ≤ 8192) (hi : op = 25 → j ≠ 1 → 0 ≤ i1 ∧ i1 < a1) :
 okT l a1 i1 s n = some (thR f n (manyJ l a1 op i1 j) a1 (rd_T50 l a1).f3 ((rd_T50 l a1).f4.length : Int)) := by
 have sm := smallB_iff.1 (hl a1 a0 a2)
 unfold okT thR
 rcases h with ⟨rfl, rfl⟩ | ⟨rfl, rfl⟩ | ⟨rfl, rfl, rfl⟩ | ⟨rfl, rfl, rfl, rfl⟩ | ⟨rfl, rfl, rfl, rfl⟩ | ⟨rfl, rfl, rfl, rfl⟩ | ⟨hs, hf⟩
 ·rw [if_pos rfl, if_pos rfl, okR_one h1 h2]
 ·rw [in_row, if_neg (by decide), if_neg (by decide), if_neg (by decide), if_neg (by decide), if_pos rfl, if_neg (by decide), if_pos rfl]
 ·rw [in_row, in_row, if_neg (by decide), if_neg (by decide), if_neg (by decide), if_neg (by decide), if_neg (by decide), if_pos rfl, if_neg (by decide), if_neg (by decide), if_pos rfl]
 ·rw [if_neg (by decide), if_pos rfl, if_neg (by decide), if_neg (by decide), if_neg (by decide), if_pos rfl, okR_room h1 h2 (by omega) (by omega)]
  rfl
 ·have hb := hi rfl (by decide)
  have sm2 := smallB_iff.1 (hl i1 hb.1 (by omega))
  have e : manyJ l a1 25 i1 2 = ((rd_T50 l i1).f1.length : Int) := by
   show knB l a1 25 i1 = _
   unfold knB
   rw [if_pos ⟨rfl, hb.1, hb.2⟩]
  rw [if_neg (by decide), if_neg (by decide), if_pos rfl, if_pos hb.1, if_pos (by omega), if_neg (by decide), if_neg (by decide), if_neg (by decide), if_pos rfl, okR_room h1 h2 (by omega) (by omega), e]
 ·have hb := hi rfl (by decide)
  have sm2 := smallB_iff.1 (hl i1 hb.1 (by omega))
  have e : manyJ l a1 25 i1 3 = ((rd_T50 l i1).f2.length : Int) := by
   show knC l a1 25 i1 = _
   unfold knC
   rw [if_pos ⟨rfl, hb.1, hb.2⟩]
  rw [if_neg (by decide), if_neg (by decide), if_neg (by decide), if_pos rfl, if_pos hb.1, if_pos (by omega), if_neg (by decide), if_neg (by decide), if_neg (by decide), if_pos rfl, okR_room h1 h2 (by omega) (by omega), e]
 ·have f1 : f ≠ 1 ∧ f ≠ 2 ∧ f ≠ 3 ∧ f ≠ 4 := by omega
  rw [if_neg (by omega), if_neg (by omega), if_neg (by omega), if_neg (by omega), if_neg (by omega), if_neg (by omega), if_neg f1.1, if_neg f1.2.1, if_neg f1.2.2.1, if_neg f1.2.2.2]
theorem known_same {n s1 s2 s3 f1 f2 f3 : Int} (u1 : useEq n s1 f1 1) (u2 : useEq n s2 f2 2) (u3 : useEq n s3 f3 3) (hc : n = 25 → f1 = 3) (l : List S50) (a1 i1 i2 i3 : Int) (hl : smallAll l) (a0 : 0 ≤ a1) (a2 : a1 < (l.length : Int)) (h1 : 1 ≤ (rd_T50 l a1).f3) (h2 : (rd_T50 l a1).f3 ≤ 8192) :
 thF l a1 i1 i2 i3 s1 s2 s3 0 = some (knR l a1 n i1 i2 i3 f1 f2 f3) := by
 unfold thF knR
 rw [use_same l a1 i1 i1 u1 hl a0 a2 h1 h2 (fun _ h => absurd rfl h), Option.bind_some]
 show (if thR f1 i1 (knA l a1 n) a1 _ _ = true then _ else _) = _
 cases hA : thR f1 i1 (knA l a1 n) a1 (rd_T50 l a1).f3 ((rd_T50 l a1).f4.length : Int) with
 | false => rfl
 | true =>
  have hi : n = 25 → ∀ j : Nat, j ≠ 1 → 0 ≤ i1 ∧ i1 < a1 := fun e j _ => by
   obtain rfl := hc e
   unfold thR at hA
   rw [if_neg (by decide), if_neg (by decide), if_pos rfl, Bool.and_eq_true, decide_eq_true_eq, decide_eq_true_eq] at hA
   exact hA
  rw [if_pos rfl, use_same l a1 i1 i2 u2 hl a0 a2 h1 h2 (fun e h => hi e 2 h), Option.bind_some, Bool.true_and]
  show (if thR f2 i2 (knB l a1 n i1) a1 _ _ = true then _ else _) = _
  cases hB : thR f2 i2 (knB l a1 n i1) a1 (rd_T50 l a1).f3 ((rd_T50 l a1).f4.length : Int) with
  | false => rfl
  | true =>
   rw [if_pos rfl, use_same l a1 i1 i3 u3 hl a0 a2 h1 h2 (fun e h => hi e 3 h), Option.bind_some, Bool.true_and]
   show (if thR f3 i3 (knC l a1 n i1) a1 _ _ = true then _ else _) = _
   cases hC : thR f3 i3 (knC l a1 n i1) a1 (rd_T50 l a1).f3 ((rd_T50 l a1).f4.length : Int) <;> rfl
theorem rempty_f (i4 : Int) (i5 : Bool) {i6 i7 : List Int} : fluxionref29_empty.f i4 i5 i6 i7 = some (emptyS i4 i5 i6 i7) := by
 unfold fluxionref29_empty.f emptyS
 by_cases h0 : i4 = 0
 ·rw [if_pos h0, dT h0, Bool.true_and]
  cases i5 with
  | true => rfl
  | false =>
   rw [if_neg Bool.false_ne_true]
   show _ = some (true && _)
   rw [Bool.true_and, empty_len (l := i6), empty_len (l := i7)]
   by_cases h6 : (i6.length : Int) = 0
   ·rw [if_pos h6, dT h6, Bool.true_and]; rfl
   ·rw [if_neg h6, dF h6, Bool.false_and]
 ·rw [if_neg h0, dF h0, Bool.false_and]
theorem j0_eq (k : Nat) (b : Bool) (i0 i1 i2 i3 i4 : Int) (i5 : Bool) (i6 i7 : List Int) (nm : ByteArray) (f1 f2 f3 : Int) (s4 : Bool) : fluxionref29_Formed.j0 (k + 1) b i0 i1 i2 i3 i4 i5 i6 i7 nm f1 f2 f3 s4 =
 if b = true then some false else (if s4 = true then (if i4 = 0 then ((fluxionref02_IsRat.f k i4 i5 i6 i7).bind fun t => some t) else some false) else ((fluxionref29_empty.f i4 i5 i6 i7).bind fun t => some t)) := rfl
theorem rformed_ev {i0 i1 i2 i3 i4 : Int} {i5 : Bool} {i6 i7 : List Int} {nm : ByteArray} {f1 f2 f3 : Int} {s4 : Bool} (h : fluxionref29_Of.f i0 = some (nm, f1, f2, f3, s4, true)) (d6 : dgB i6 = true) (d7 : dgB i7 = true) :
 Ev (fun k => fluxionref29_Formed.f k i0 i1 i2 i3 i4 i5 i6 i7) ((if s4 = true then decide (i4 = 0) && ratS i4 i5 i6 i7 else emptyS i4 i5 i6 i7) && (gB f1 i1 && (gB f2 i2 && gB f3 i3))) := by
 have e6 := dgB_iff.1 d6
 have e7 := dgB_iff.1 d7
 have no : ∀ b : Bool, b = false → Ev (fun k => fluxionref29_Formed.j0 k true i0 i1 i2 i3 i4 i5 i6 i7 nm f1 f2 f3 s4) b := fun b hb => by
  subst hb
  exact Ev.step (f := fun _ => some false) (fun k => by rw [j0_eq]; exact if_pos rfl) (Ev.now _)
 unfold fluxionref29_Formed.f
 rw [h]
 simp only [Option.bind_some, given_f, if_true]
 cases g1 : gB f1 i1 with
 | false => exact Ev.congr (fun k => if_neg Bool.false_ne_true) (no _ (by simp))
 | true =>
  refine Ev.congr (fun k => if_pos rfl) ?_
  cases g2 : gB f2 i2 with
  | false => exact Ev.congr (fun k => if_neg Bool.false_ne_true) (no _ (by simp))
  | true =>
   refine Ev.congr (fun k => if_pos rfl) ?_
   cases g3 : gB f3 i3 with
   | false => exact no _ (by simp)
   | true =>
    simp only [Bool.and_true, Bool.not_true]
    cases s4 with
    | true =>
     rw [if_pos rfl]
     by_cases h4 : i4 = 0
     ·rw [dT h4, Bool.true_and]
      refine Ev.step (f := fun k => (fluxionref02_IsRat.f k i4 i5 i6 i7).bind fun t => some t) (fun k => ?_) (Ev.bind (f := fun _ t => some t) (refRat_ev i4 i5 e6.1 e7.1 e6.2 e7.2) (Ev.now _))
      rw [j0_eq, if_neg Bool.false_ne_true, if_pos rfl, if_pos h4]
     ·rw [dF h4, Bool.false_and]
      refine Ev.step (f := fun _ => some false) (fun k => ?_) (Ev.now _)
      rw [j0_eq, if_neg Bool.false_ne_true, if_pos rfl, if_neg h4]
    | false =>
     rw [if_neg Bool.false_ne_true]
     refine Ev.step (f := fun _ => some (emptyS i4 i5 i6 i7)) (fun k => ?_) (Ev.now _)
     rw [j0_eq, if_neg Bool.false_ne_true, if_neg Bool.false_ne_true, rempty_f, Option.bind_some]
theorem rformed_no {i0 i1 i2 i3 i4 : Int} {i5 : Bool} {i6 i7 : List Int} {nm : ByteArray} {f1 f2 f3 : Int} {s4 : Bool} (h : fluxionref29_Of.f i0 = some (nm, f1, f2, f3, s4, false)) :
 Ev (fun k => fluxionref29_Formed.f k i0 i1 i2 i3 i4 i5 i6 i7) false := by
 unfold fluxionref29_Formed.f
 rw [h]
 refine Ev.step (f := fun _ => some false) (fun k => ?_) (Ev.now _)
 simp only [Option.bind_some]
 rw [if_neg Bool.false_ne_true]
 rw [j0_eq, if_pos rfl]
theorem ins_same (l : List S50) (a1 i0 i1 i2 i3 i4 : Int) (i5 : Bool) (i6 i7 : List Int) (d6 : dgB i6 = true) (d7 : dgB i7 = true) (hl : smallAll l) (a0 : 0 ≤ a1) (a2 : a1 < (l.length : Int)) (h1 : 1 ≤ (rd_T50 l a1).f3) (h2 : (rd_T50 l a1).f3 ≤ 8192) :
 ∃ (b c : Bool) (nm : ByteArray) (s1 s2 s3 : Int) (s4 : Bool) (s5 s6 : Int) (ok : Bool), Ev (fun k => fluxionref29_Formed.f k i0 i1 i2 i3 i4 i5 i6 i7) b ∧ (b = true → ref_known.f l a1 i0 i1 i2 i3 i4 i5 i6 i7 = some c) ∧ code_of.f i0 = some (nm, s1, s2, s3, s4, s5, s6, ok) ∧
  (ok = false → b = false) ∧ (ok = true → code_formed.f i0 i1 i2 i3 i4 i5 i6 i7 nm s1 s2 s3 s4 s5 s6 = some b) ∧ (b = true → code_there.f l a1 i0 i1 i2 i3 i4 i5 i6 i7 nm s1 s2 s3 s4 s5 s6 = some c) := by
 by_cases hn : i0 < 1 ∨ 27 ≤ i0
 ·obtain ⟨⟨nm, s1, s2, s3, s4, s5, s6, e1⟩, nm2, f1, f2, f3, f4, e2⟩ := rows_none hn
  exact ⟨false, false, nm, s1, s2, s3, s4, s5, s6, false, rformed_no e2, fun h => (by cases h), e1, fun _ => rfl, fun h => (by cases h), fun h => (by cases h)⟩
 ·obtain ⟨nm, s1, s2, s3, s4, s5, s6, nm2, f1, f2, f3, e1, e2, ⟨o1, o2, o3⟩, ⟨u1, u2, u3⟩, hc⟩ := rows_same (n := i0) (by omega) (by omega)
  refine ⟨_, knR l a1 i0 i1 i2 i3 f1 f2 f3, nm, s1, s2, s3, s4, s5, s6, true, rformed_ev e2 d6 d7, fun _ => ?_, e1, fun h => (by cases h), fun _ => ?_, fun _ => ?_⟩
  ·unfold ref_known.f
   rw [if_pos ⟨a0, a2⟩, e2, Option.bind_some]
  ·unfold code_formed.f
   rw [if_pos ⟨d6, d7⟩]
   show some (_ && (okF s1 i1 i0 s5 s6 && (okF s2 i2 i0 s5 s6 && okF s3 i3 i0 s5 s6))) = _
   rw [o1 i1, o2 i2, o3 i3]
  ·unfold code_there.f
   rw [if_pos ⟨a0, a2⟩, known_same u1 u2 u3 hc l a1 i1 i2 i3 hl a0 a2 h1 h2]
def errS (b c : Bool) (j n op : Int) : Int := if b = true then (if c = true then (if j = wrap64 (n - 1) then (if op = 20 then 0 else if op = 26 then 0 else 10) else 0) else 2) else 5
theorem i0_eq (k : Nat) (x0 : List S50) (x1 x2 : Int) (x24 : Bool) (a0 a1 a2 a3 a4 : Int) (a5 : Bool) (a6 a7 : List Int) (s0 : ByteArray) (s1 s2 s3 : Int) (s4 : Bool) (s5 s6 : Int) :
 code_instruction.j0 (k + 1) x0 x1 x2 x24 a0 a1 a2 a3 a4 a5 a6 a7 s0 s1 s2 s3 s4 s5 s6 = if x24 = true then (some 5) else ((code_there.f x0 x1 a0 a1 a2 a3 a4 a5 a6 a7 s0 s1 s2 s3 s4 s5 s6).bind fun t220 => (if t220 = true then (if 0 ≤ x1 then (if x1 < (x0.length : Int) then (if x2 = (wrap64 ((((rd_T50 x0 x1).f4).length : Int) - 1)) then (if a0 = 20 then (some 0) else (if a0 = 26 then (some 0) else (some 10))) else (some 0)) else (none)) else (none)) else (some 2))) := rfl
theorem instr_ev (l : List S50) (a1 j : Int) (x : S63) (hx : rd_T63 (rd_T50 l a1).f4 j = x) (a0 : 0 ≤ a1) (a2 : a1 < (l.length : Int)) (j0 : 0 ≤ j) (j2 : j < ((rd_T50 l a1).f4.length : Int)) {b c : Bool} {nm : ByteArray} {s1 s2 s3 : Int} {s4 : Bool} {s5 s6 : Int} {ok : Bool}
 (e : code_of.f x.f0 = some (nm, s1, s2, s3, s4, s5, s6, ok)) (q1 : ok = false → b = false) (q2 : ok = true → code_formed.f x.f0 x.f1 x.f2 x.f3 x.f4.f0 x.f4.f1 x.f4.f2 x.f4.f3 nm s1 s2 s3 s4 s5 s6 = some b) (q3 : b = true → code_there.f l a1 x.f0 x.f1 x.f2 x.f3 x.f4.f0 x.f4.f1 x.f4.f2 x.f4.f3 nm s1 s2 s3 s4 s5 s6 = some c) :
 Ev (fun k => code_instruction.f k l a1 j) (errS b c j ((rd_T50 l a1).f4.length : Int) x.f0) := by
 have no : b = false → Ev (fun k => code_instruction.j0 k l a1 j true x.f0 x.f1 x.f2 x.f3 x.f4.f0 x.f4.f1 x.f4.f2 x.f4.f3 nm s1 s2 s3 s4 s5 s6) (errS b c j ((rd_T50 l a1).f4.length : Int) x.f0) := fun hb => by
  subst hb
  exact Ev.step (f := fun _ => some 5) (fun k => by rw [i0_eq]; exact if_pos rfl) (Ev.now _)
 unfold code_instruction.f
 refine Ev.congr (fun k => (if_pos a0).trans ((if_pos a2).trans ((if_pos j0).trans (if_pos j2)))) ?_
 simp only [hx, e, Option.bind_some]
 cases ok with
 | false => exact Ev.congr (fun k => if_neg Bool.false_ne_true) (no (q1 rfl))
 | true =>
  refine Ev.congr (fun k => if_pos rfl) ?_
  rw [q2 rfl]
  simp only [Option.bind_some]
  cases b with
  | false => exact no rfl
  | true =>
   refine Ev.step (f := fun _ => some (errS true c j ((rd_T50 l a1).f4.length : Int) x.f0)) (fun k => ?_) (Ev.now _)
   rw [i0_eq, if_neg (by decide), q3 rfl, Option.bind_some]
   unfold errS
   rw [if_pos rfl]
   cases c with
   | false => rfl
   | true =>
    rw [if_pos rfl, if_pos rfl, if_pos a0, if_pos a2]
    by_cases h1 : j = wrap64 (((rd_T50 l a1).f4.length : Int) - 1)
    ·rw [if_pos h1, if_pos h1]
     by_cases h2 : x.f0 = 20
     ·rw [if_pos h2, if_pos h2]
     rw [if_neg h2, if_neg h2]
     by_cases h3 : x.f0 = 26
     ·rw [if_pos h3, if_pos h3]
     ·rw [if_neg h3, if_neg h3]
    ·rw [if_neg h1, if_neg h1]
structure Cut (l : List S50) : Prop where
 small : smallAll l
 dig : ∀ i j : Int, 0 ≤ i → i < (l.length : Int) → 0 ≤ j → j < ((rd_T50 l i).f4.length : Int) → dgB (rd_T63 (rd_T50 l i).f4 j).f4.f2 = true ∧ dgB (rd_T63 (rd_T50 l i).f4 j).f4.f3 = true
 len : l.length ≤ 1000000000
 ins : ∀ i : Int, 0 ≤ i → i < (l.length : Int) → (rd_T50 l i).f4.length ≤ 1000000000
theorem c1_eq (k : Nat) (x0 : List S50) (x5 x18 x19 x34 x35 : Int) : code_Check.l1 (k + 1) x0 x5 x18 x19 x34 x35 = if x35 < x34 then ((code_instruction.f k x0 x5 x35).bind fun t224 => (if t224 = 0 then (code_Check.l1 k x0 x5 x18 x19 x34 (wrap64 (x35 + 1))) else (some (x5, x35, t224)))) else (code_Check.l0 k x0 x18 (wrap64 (x19 + 1))) := by
 conv => lhs; unfold code_Check.l1
theorem c0_eq (k : Nat) (x0 : List S50) (x18 x19 : Int) : code_Check.l0 (k + 1) x0 x18 x19 = if x19 < x18 then ((code_head.f x0 x19).bind fun t222 => (if t222 = 0 then (if 0 ≤ x19 then (if x19 < (x0.length : Int) then (code_Check.l1 k x0 x19 x18 x19 (((rd_T50 x0 x19).f4).length : Int) 0) else (none)) else (none)) else (some (x19, 0, t222)))) else (some (0, 0, 0)) := by
 conv => lhs; unfold code_Check.l0
theorem r0_eq (k : Nat) (x0 : List S50) (x5 : Int) : fluxionref29_Check.l0 (k + 1) x0 x5 = if x5 < (x0.length : Int) then ((ref_headed.f x0 x5).bind fun t346 => (if t346 = 0 then (if 0 ≤ x5 then (fluxionref29_Check.l1 k x0 x5 ((rd_T50 x0 x5).f4) 0) else (none)) else (some (x5, 0, t346)))) else (some (0, 0, 0)) := by
 conv => lhs; unfold fluxionref29_Check.l0
theorem r1_eq (k : Nat) (x0 : List S50) (x5 : Int) (x7 : List S63) (x8 : Int) : fluxionref29_Check.l1 (k + 1) x0 x5 x7 x8 = if x8 < (x7.length : Int) then (if 0 ≤ x8 then ((fluxionref29_Formed.f k ((rd_T63 x7 x8).f0) ((rd_T63 x7 x8).f1) ((rd_T63 x7 x8).f2) ((rd_T63 x7 x8).f3) ((rd_T63 x7 x8).f4.f0) ((rd_T63 x7 x8).f4.f1) ((rd_T63 x7 x8).f4.f2) ((rd_T63 x7 x8).f4.f3)).bind fun t349 => (if t349 = true then ((ref_known.f x0 x5 ((rd_T63 x7 x8).f0) ((rd_T63 x7 x8).f1) ((rd_T63 x7 x8).f2) ((rd_T63 x7 x8).f3) ((rd_T63 x7 x8).f4.f0) ((rd_T63 x7 x8).f4.f1) ((rd_T63 x7 x8).f4.f2) ((rd_T63 x7 x8).f4.f3)).bind fun t351 => (if t351 = true then (if x8 = (wrap64 ((x7.length : Int) - 1)) then (if ((rd_T63 x7 x8).f0) = 20 then (fluxionref29_Check.l1 k x0 x5 x7 (wrap64 (x8 + 1))) else (if ((rd_T63 x7 x8).f0) = 26 then (fluxionref29_Check.l1 k x0 x5 x7 (wrap64 (x8 + 1))) else (some (x5, x8, 10)))) else (fluxionref29_Check.l1 k x0 x5 x7 (wrap64 (x8 + 1)))) else (some (x5, x8, 2)))) else (some (x5, x8, 5)))) else (none)) else (fluxionref29_Check.l0 k x0 (wrap64 (x5 + 1))) := by
 conv => lhs; unfold fluxionref29_Check.l1
theorem wrap_next {m n : Int} (h0 : 0 ≤ m) (h1 : m < n) (h2 : n ≤ 1000000000) : wrap64 (m + 1) = m + 1 := by unfold wrap64; omega
theorem both_l1 {l : List S50} (hC : Cut l) (a1 : Int) (a0 : 0 ≤ a1) (a2 : a1 < (l.length : Int)) (h1 : 1 ≤ (rd_T50 l a1).f3) (h2 : (rd_T50 l a1).f3 ≤ 8192) {R : Int × Int × Int} (e1 : Ev (fun k => code_Check.l0 k l (l.length : Int) (a1 + 1)) R) (e2 : Ev (fun k => fluxionref29_Check.l0 k l (a1 + 1)) R) :
 ∀ (n : Nat) (j : Int), 0 ≤ j → j + n = ((rd_T50 l a1).f4.length : Int) → ∃ r, Ev (fun k => code_Check.l1 k l a1 (l.length : Int) a1 ((rd_T50 l a1).f4.length : Int) j) r ∧ Ev (fun k => fluxionref29_Check.l1 k l a1 (rd_T50 l a1).f4 j) r
 | 0, j, j0, hj => by
  have hn := hC.len
  have w1 := wrap_next a0 a2 (by omega)
  refine ⟨R, Ev.step (fun k => ?_) e1, Ev.step (fun k => ?_) e2⟩
  ·rw [c1_eq, if_neg (by omega), w1]
  ·rw [r1_eq, if_neg (by omega), w1]
 | n + 1, j, j0, hj => by
  have hn := hC.ins a1 a0 a2
  have j2 : j < ((rd_T50 l a1).f4.length : Int) := by omega
  have w1 := wrap_next j0 j2 (by omega)
  obtain ⟨x, hx⟩ : ∃ x, rd_T63 (rd_T50 l a1).f4 j = x := ⟨_, rfl⟩
  obtain ⟨d6, d7⟩ := hC.dig a1 j a0 a2 j0 j2
  rw [hx] at d6 d7
  obtain ⟨b, c, nm, s1, s2, s3, s4, s5, s6, ok, q0, q4, e, q1, q2, q3⟩ := ins_same l a1 x.f0 x.f1 x.f2 x.f3 x.f4.f0 x.f4.f1 x.f4.f2 x.f4.f3 d6 d7 hC.small a0 a2 h1 h2
  have I := instr_ev l a1 j x hx a0 a2 j0 j2 e q1 q2 q3
  obtain ⟨r, g1, g2⟩ := both_l1 hC a1 a0 a2 h1 h2 e1 e2 n (j + 1) (by omega) (by omega)
  have C : ∀ v r', errS b c j ((rd_T50 l a1).f4.length : Int) x.f0 = v → Ev (fun k => if v = 0 then code_Check.l1 k l a1 (l.length : Int) a1 ((rd_T50 l a1).f4.length : Int) (j + 1) else some (a1, j, v)) r' → Ev (fun k => code_Check.l1 k l a1 (l.length : Int) a1 ((rd_T50 l a1).f4.length : Int) j) r' := fun v r' hv he => by
   rw [hv] at I
   exact Ev.step (f := fun k => (code_instruction.f k l a1 j).bind fun t => if t = 0 then code_Check.l1 k l a1 (l.length : Int) a1 ((rd_T50 l a1).f4.length : Int) (j + 1) else some (a1, j, t)) (fun k => by rw [c1_eq, if_pos j2, w1]) (Ev.bind (f := fun k t => if t = 0 then code_Check.l1 k l a1 (l.length : Int) a1 ((rd_T50 l a1).f4.length : Int) (j + 1) else some (a1, j, t)) I he)
  have T : ∀ r', Ev (fun k => if b = true then ((ref_known.f l a1 x.f0 x.f1 x.f2 x.f3 x.f4.f0 x.f4.f1 x.f4.f2 x.f4.f3).bind fun t351 => (if t351 = true then (if j = (wrap64 (((rd_T50 l a1).f4.length : Int) - 1)) then (if x.f0 = 20 then (fluxionref29_Check.l1 k l a1 (rd_T50 l a1).f4 (j + 1)) else (if x.f0 = 26 then (fluxionref29_Check.l1 k l a1 (rd_T50 l a1).f4 (j + 1)) else (some (a1, j, 10)))) else (fluxionref29_Check.l1 k l a1 (rd_T50 l a1).f4 (j + 1))) else (some (a1, j, 2)))) else (some (a1, j, 5))) r' → Ev (fun k => fluxionref29_Check.l1 k l a1 (rd_T50 l a1).f4 j) r' := fun r' he => by
   refine Ev.step (f := fun k => (fluxionref29_Formed.f k x.f0 x.f1 x.f2 x.f3 x.f4.f0 x.f4.f1 x.f4.f2 x.f4.f3).bind fun t => if t = true then ((ref_known.f l a1 x.f0 x.f1 x.f2 x.f3 x.f4.f0 x.f4.f1 x.f4.f2 x.f4.f3).bind fun t351 => (if t351 = true then (if j = (wrap64 (((rd_T50 l a1).f4.length : Int) - 1)) then (if x.f0 = 20 then (fluxionref29_Check.l1 k l a1 (rd_T50 l a1).f4 (j + 1)) else (if x.f0 = 26 then (fluxionref29_Check.l1 k l a1 (rd_T50 l a1).f4 (j + 1)) else (some (a1, j, 10)))) else (fluxionref29_Check.l1 k l a1 (rd_T50 l a1).f4 (j + 1))) else (some (a1, j, 2)))) else (some (a1, j, 5))) (fun k => ?_) (Ev.bind (f := fun k t => if t = true then ((ref_known.f l a1 x.f0 x.f1 x.f2 x.f3 x.f4.f0 x.f4.f1 x.f4.f2 x.f4.f3).bind fun t351 => (if t351 = true then (if j = (wrap64 (((rd_T50 l a1).f4.length : Int) - 1)) then (if x.f0 = 20 then (fluxionref29_Check.l1 k l a1 (rd_T50 l a1).f4 (j + 1)) else (if x.f0 = 26 then (fluxionref29_Check.l1 k l a1 (rd_T50 l a1).f4 (j + 1)) else (some (a1, j, 10)))) else (fluxionref29_Check.l1 k l a1 (rd_T50 l a1).f4 (j + 1))) else (some (a1, j, 2)))) else (some (a1, j, 5))) q0 he)
   rw [r1_eq, if_pos j2, if_pos j0, hx, w1]
  cases b with
  | false => exact ⟨(a1, j, 5), C 5 _ rfl (Ev.now _), T _ (Ev.now _)⟩
  | true =>
   rw [q4 rfl] at T
   cases c with
   | false => exact ⟨(a1, j, 2), C 2 _ rfl (Ev.now _), T _ (Ev.now _)⟩
   | true =>
    by_cases k1 : j = wrap64 (((rd_T50 l a1).f4.length : Int) - 1)
    ·by_cases k2 : x.f0 = 20
     ·exact ⟨r, C 0 _ (by unfold errS; rw [if_pos rfl, if_pos rfl, if_pos k1, if_pos k2]) g1, T _ (Ev.congr (fun k => (if_pos k1).trans (if_pos k2)) g2)⟩
     ·by_cases k3 : x.f0 = 26
      ·exact ⟨r, C 0 _ (by unfold errS; rw [if_pos rfl, if_pos rfl, if_pos k1, if_neg k2, if_pos k3]) g1, T _ (Ev.congr (fun k => (if_pos k1).trans ((if_neg k2).trans (if_pos k3))) g2)⟩
      ·exact ⟨(a1, j, 10), C 10 _ (by unfold errS; rw [if_pos rfl, if_pos rfl, if_pos k1, if_neg k2, if_neg k3]) (Ev.now _), T _ (Ev.congr (fun k => (if_pos k1).trans ((if_neg k2).trans (if_neg k3))) (Ev.now _))⟩
    ·exact ⟨r, C 0 _ (by unfold errS; rw [if_pos rfl, if_pos rfl, if_neg k1]) g1, T _ (Ev.congr (fun k => if_neg k1) g2)⟩
theorem head_zero {l : List S50} {m : Nat} (h : headS l m = 0) : 1 ≤ (rd_T50 l (m : Int)).f3 ∧ (rd_T50 l (m : Int)).f3 ≤ 8192 := by
 unfold headS at h
 by_cases h1 : nameR (rd_T50 l (m : Int)).f0 = false
 ·rw [if_pos h1] at h; exact absurd h (by decide)
 rw [if_neg h1] at h
 by_cases h2 : decide (∀ i < m, (rd_T50 l (i : Int)).f0.toList ≠ (rd_T50 l (m : Int)).f0.toList) = false
 ·rw [if_pos h2] at h; exact absurd h (by decide)
 rw [if_neg h2] at h
 by_cases h3 : decide (∀ i < ((rd_T50 l (m : Int)).f1 ++ (rd_T50 l (m : Int)).f2).length, heldR (rd_T115 ((rd_T50 l (m : Int)).f1 ++ (rd_T50 l (m : Int)).f2) (i : Int)).f0 (rd_T115 ((rd_T50 l (m : Int)).f1 ++ (rd_T50 l (m : Int)).f2) (i : Int)).f1 = true) = false
 ·rw [if_pos h3] at h; exact absurd h (by decide)
 rw [if_neg h3] at h
 by_cases h4 : limR (rd_T50 l (m : Int)) = true
 ·rw [if_pos h4] at h; exact absurd h (by decide)
 have h5 : limR (rd_T50 l (m : Int)) = false := by simpa using h4
 unfold limR at h5
 simp only [Bool.or_eq_false_iff, decide_eq_false_iff_not] at h5
 omega
theorem both_l0 {l : List S50} (hC : Cut l) : ∀ (n : Nat) (i : Int), 0 ≤ i → i + n = (l.length : Int) → ∃ r, Ev (fun k => code_Check.l0 k l (l.length : Int) i) r ∧ Ev (fun k => fluxionref29_Check.l0 k l i) r
 | 0, i, i0, hi => ⟨(0, 0, 0), Ev.step (f := fun _ => some (0, 0, 0)) (fun k => by rw [c0_eq, if_neg (by omega)]) (Ev.now _), Ev.step (f := fun _ => some (0, 0, 0)) (fun k => by rw [r0_eq, if_neg (by omega)]) (Ev.now _)⟩
 | n + 1, i, i0, hi => by
  have i2 : i < (l.length : Int) := by omega
  obtain ⟨R, e1, e2⟩ := both_l0 hC n (i + 1) (by omega) (by omega)
  have hH : headF l i = some (headS l i.toNat) := by
   unfold headF
   rw [if_pos ⟨i0, i2, hC.small i i0 i2⟩]
  by_cases h0 : headS l i.toNat = 0
  ·have hb := head_zero h0
   rw [Int.toNat_of_nonneg i0] at hb
   obtain ⟨r, g1, g2⟩ := both_l1 hC i i0 i2 hb.1 hb.2 e1 e2 (rd_T50 l i).f4.length 0 (Int.le_refl _) (by omega)
   refine ⟨r, Ev.step (fun k => ?_) g1, Ev.step (fun k => ?_) g2⟩
   ·rw [c0_eq, if_pos i2, show code_head.f l i = some (headS l i.toNat) from hH, Option.bind_some, if_pos h0, if_pos i0, if_pos i2]
   ·rw [r0_eq, if_pos i2, show ref_headed.f l i = some (headS l i.toNat) from hH, Option.bind_some, if_pos h0, if_pos i0]
  ·refine ⟨(i, 0, headS l i.toNat), Ev.step (f := fun _ => some (i, 0, headS l i.toNat)) (fun k => ?_) (Ev.now _), Ev.step (f := fun _ => some (i, 0, headS l i.toNat)) (fun k => ?_) (Ev.now _)⟩
   ·rw [c0_eq, if_pos i2, show code_head.f l i = some (headS l i.toNat) from hH, Option.bind_some, if_neg h0]
   ·rw [r0_eq, if_pos i2, show ref_headed.f l i = some (headS l i.toNat) from hH, Option.bind_some, if_neg h0]
theorem cj_eq (k : Nat) (x0 : List S50) (b : Bool) : code_Check.j0 (k + 1) x0 b = if b = true then (some (0, 0, 3)) else (code_Check.l0 k x0 (x0.length : Int) 0) := by
 conv => lhs; unfold code_Check.j0
theorem rj_eq (k : Nat) (x0 : List S50) (b : Bool) : fluxionref29_Check.j0 (k + 1) x0 b = if b = true then (some (0, 0, 3)) else (fluxionref29_Check.l0 k x0 0) := by
 conv => lhs; unfold fluxionref29_Check.j0
theorem check_same {l : List S50} (hC : Cut l) : ∃ r, Ev (fun k => code_Check.f k l) r ∧ Ev (fun k => fluxionref29_Check.f k l) r := by
 have J : ∀ b : Bool, ∃ r, Ev (fun k => code_Check.j0 k l b) r ∧ Ev (fun k => fluxionref29_Check.j0 k l b) r := fun b => by
  cases b with
  | true => exact ⟨(0, 0, 3), Ev.step (f := fun _ => some (0, 0, 3)) (fun k => by rw [cj_eq, if_pos rfl]) (Ev.now _), Ev.step (f := fun _ => some (0, 0, 3)) (fun k => by rw [rj_eq, if_pos rfl]) (Ev.now _)⟩
  | false =>
   obtain ⟨r, g1, g2⟩ := both_l0 hC l.length 0 (Int.le_refl _) (by omega)
   exact ⟨r, Ev.step (fun k => by rw [cj_eq, if_neg Bool.false_ne_true]) g1, Ev.step (fun k => by rw [rj_eq, if_neg Bool.false_ne_true]) g2⟩
 by_cases h : (l.length : Int) < 1
 ·obtain ⟨r, g1, g2⟩ := J true
  exact ⟨r, Ev.congr (fun k => if_pos h) g1, Ev.congr (fun k => if_pos h) g2⟩
 ·obtain ⟨r, g1, g2⟩ := J (decide ((l.length : Int) > 32))
  exact ⟨r, Ev.congr (fun k => if_neg h) g1, Ev.congr (fun k => if_neg h) g2⟩
end Go.Proofs.YtbkknoipgmlcmaaGreatDoor.P

