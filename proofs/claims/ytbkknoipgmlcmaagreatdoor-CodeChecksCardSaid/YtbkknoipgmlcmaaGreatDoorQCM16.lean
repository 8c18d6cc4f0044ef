import Derived.Laws.BitsLemmas
import Derived.Test.YtbkknoipgmlcmaaGreatDoorQCM15
set_option linter.unusedVariables false
set_option linter.unusedSimpArgs false
namespace Go.Proofs.YtbkknoipgmlcmaaGreatDoor.P
def dv : List Int → Int
 | [] => 0
 | d :: l => d + 4294967296 * dv l
def pB : Nat → Int
 | 0 => 1
 | n + 1 => 4294967296 * pB n
def dOk (l : List Int) : Prop := ∀ d ∈ l, 0 ≤ d ∧ d < 4294967296
theorem pB_pos : ∀ n, 0 < pB n
 | 0 => by decide
 | n + 1 => by have := pB_pos n; simp only [pB]; omega
theorem pB_add (m : Nat) : ∀ n, pB (m + n) = pB m * pB n
 | 0 => by simp [pB]
 | n + 1 => by
  have := pB_add m n
  show 4294967296 * pB (m + n) = pB m * (4294967296 * pB n)
  rw [this]; grind
theorem dOk_cons {d : Int} {l : List Int} : dOk (d :: l) ↔ (0 ≤ d ∧ d < 4294967296) ∧ dOk l := by
 unfold dOk; simp
theorem dOk_append {l m : List Int} : dOk (l ++ m) ↔ dOk l ∧ dOk m := by
 unfold dOk; simp only [List.mem_append]
 exact ⟨fun h => ⟨fun d hd => h d (.inl hd), fun d hd => h d (.inr hd)⟩, fun h d hd => hd.elim (h.1 d) (h.2 d)⟩
theorem dv_bound : ∀ l, dOk l → 0 ≤ dv l ∧ dv l < pB l.length
 | [], _ => by decide
 | d :: l, h => by
  obtain ⟨h1, h2⟩ := dOk_cons.1 h
  have := dv_bound l h2
  simp only [dv, List.length_cons, pB]
  omega
theorem dv_append (l m : List Int) : dv (l ++ m) = dv l + pB l.length * dv m := by
 induction l with
 | nil => simp [dv, pB]
 | cons d l ih =>
  simp only [List.cons_append, dv, List.length_cons, pB, ih]
  grind
theorem guess_up {e v1 v2 v' two u3 w' V W q : Int} (he : 0 < e) (hv1 : 0 ≤ v1 ∧ 0 < v1) (hv2 : 0 ≤ v2) (hv' : 0 ≤ v')
 (hu3 : u3 < 4294967296) (hw' : w' < e) (hV : V = (v1 * 4294967296 + v2) * e + v') (hW : W = (two * 4294967296 + u3) * e + w')
 (hq : two + 1 ≤ (q + 1) * v1) (hq0 : 0 ≤ q) : W < (q + 1) * V := by
 have h1 : (two + 1) * (4294967296 * e) ≤ ((q + 1) * v1) * (4294967296 * e) := Int.mul_le_mul_of_nonneg_right hq (by omega)
 have h2 : 0 ≤ (q + 1) * (v2 * e + v') := Int.mul_nonneg (by omega) (by have := Int.mul_nonneg hv2 (Int.le_of_lt he); omega)
 have h3 : (u3 + 1) * e ≤ 4294967296 * e := Int.mul_le_mul_of_nonneg_right (by omega) (by omega)
 have e1 : (q + 1) * V = ((q + 1) * v1) * (4294967296 * e) + (q + 1) * (v2 * e + v') := by rw [hV]; grind
 have e2 : (two + 1) * (4294967296 * e) = two * 4294967296 * e + 4294967296 * e := by grind
 have e3 : (two * 4294967296 + u3) * e = two * 4294967296 * e + u3 * e := by grind
 have e4 : (u3 + 1) * e = u3 * e + e := by grind
 rw [hW, e1, e3]
 omega
theorem guess_down {e v1 v2 v' two u3 w' V W q r : Int} (he : 0 < e) (hv' : 0 ≤ v') (hw' : w' < e)
 (hV : V = (v1 * 4294967296 + v2) * e + v') (hW : W = (two * 4294967296 + u3) * e + w') (hqr : q * v1 + r = two) (hq0 : 0 ≤ q)
 (hbad : r * 4294967296 + u3 < q * v2) : W < q * V := by
 have h1 : (r * 4294967296 + u3 + 1) * e ≤ (q * v2) * e := Int.mul_le_mul_of_nonneg_right (by omega) (by omega)
 have h2 : 0 ≤ q * v' := Int.mul_nonneg hq0 hv'
 have e1 : q * V = ((q * v1) * 4294967296) * e + (q * v2) * e + q * v' := by rw [hV]; grind
 have e2 : q * v1 = two - r := by omega
 have e3 : ((two - r) * 4294967296) * e + (r * 4294967296 + u3 + 1) * e = (two * 4294967296 + u3) * e + e := by grind
 rw [hW, e1, e2]
 omega
theorem guess_ok {e v1 v2 v' two u3 w' V W q r : Int} (he : 0 < e) (hv1 : 1 ≤ v1) (hv2 : 0 ≤ v2) (hv' : 0 ≤ v' ∧ v' < e) (hw' : 0 ≤ w')
 (hV : V = (v1 * 4294967296 + v2) * e + v') (hW : W = (two * 4294967296 + u3) * e + w') (hqr : q * v1 + r = two) (hq0 : 0 ≤ q) (hq : q < 4294967296)
 (hok : q * v2 ≤ r * 4294967296 + u3) : q * V ≤ W + V := by
 have h1 : (q * v2) * e ≤ (r * 4294967296 + u3) * e := Int.mul_le_mul_of_nonneg_right hok (by omega)
 have h2 : q * v' ≤ 4294967296 * e := Int.mul_le_mul (by omega) (by omega) hv'.1 (by omega)
 have h3 : 1 * (4294967296 * e) ≤ v1 * (4294967296 * e) := Int.mul_le_mul_of_nonneg_right hv1 (by omega)
 have h4 : 0 ≤ v2 * e := Int.mul_nonneg hv2 (by omega)
 have e1 : q * V = ((q * v1) * 4294967296) * e + (q * v2) * e + q * v' := by rw [hV]; grind
 have e2 : q * v1 = two - r := by omega
 have e3 : ((two - r) * 4294967296) * e + (r * 4294967296 + u3) * e = (two * 4294967296 + u3) * e := by grind
 have e4 : V = v1 * (4294967296 * e) + v2 * e + v' := by rw [hV]; grind
 rw [e1, e2, hW]
 omega
theorem guess_far {e v1 v2 v' two u3 w' V W q r : Int} (he : 0 < e) (hv2 : 0 ≤ v2 ∧ v2 < 4294967296) (hv' : 0 ≤ v' ∧ v' < e) (hw' : 0 ≤ w') (hu3 : 0 ≤ u3)
 (hV : V = (v1 * 4294967296 + v2) * e + v') (hW : W = (two * 4294967296 + u3) * e + w') (hqr : q * v1 + r = two) (hq0 : 0 ≤ q) (hq : q ≤ 4294967296)
 (hr : 4294967296 ≤ r) : q * V ≤ W := by
 have h0 : (v2 + 1) * e ≤ 4294967296 * e := Int.mul_le_mul_of_nonneg_right (by omega) (by omega)
 have h1 : q * (v2 * e + v') ≤ q * (4294967296 * e) := Int.mul_le_mul_of_nonneg_left (by
  have : (v2 + 1) * e = v2 * e + e := by grind
  omega) hq0
 have h2 : q * (4294967296 * e) ≤ r * (4294967296 * e) := Int.mul_le_mul_of_nonneg_right (by omega) (by omega)
 have h3 : 0 ≤ u3 * e := Int.mul_nonneg hu3 (by omega)
 have e1 : q * V = (q * v1) * (4294967296 * e) + q * (v2 * e + v') := by rw [hV]; grind
 have e2 : q * v1 = two - r := by omega
 have e3 : (two - r) * (4294967296 * e) = two * (4294967296 * e) - r * (4294967296 * e) := by grind
 have e4 : (two * 4294967296 + u3) * e = two * (4294967296 * e) + u3 * e := by grind
 rw [e1, e2, e3, hW, e4]
 omega
theorem getD_digit {l : List Int} (h : dOk l) (i : Nat) : 0 ≤ l.getD i 0 ∧ l.getD i 0 < 4294967296 := by
 rw [List.getD_eq_getElem?_getD]
 cases hi : l[i]? with
 | none => decide
 | some d => exact h d (List.mem_of_getElem? hi)
theorem dOk_drop {l : List Int} (h : dOk l) (n : Nat) : dOk (l.drop n) := fun d hd => h d (List.mem_of_mem_drop hd)
theorem dOk_take {l : List Int} (h : dOk l) (n : Nat) : dOk (l.take n) := fun d hd => h d (List.mem_of_mem_take hd)
theorem dOk_set {l : List Int} (h : dOk l) (i : Nat) {x : Int} (hx : 0 ≤ x ∧ x < 4294967296) : dOk (l.set i x) := by
 intro d hd
 rcases List.mem_or_eq_of_mem_set hd with h1 | rfl
 ·exact h d h1
 ·exact hx
def tkL (q : Int) : List Int → List Int → Int → Int → List Int × Int × Int
 | [], _, c, b => ([], c, b)
 | x :: u, v, c, b =>
  let t := c + q * v.headD 0
  let d := x - t % 4294967296 - b
  let r := tkL q u v.tail (t / 4294967296) (if d < 0 then 1 else 0)
  (d % 4294967296 :: r.1, r.2)
theorem tkL_len (q : Int) : ∀ u v c b, (tkL q u v c b).1.length = u.length
 | [], _, _, _ => rfl
 | x :: u, v, c, b => by simp only [tkL, List.length_cons]; rw [tkL_len q u]
theorem tkL_ok (q : Int) : ∀ u v c b, dOk (tkL q u v c b).1
 | [], _, _, _ => by intro d hd; cases hd
 | x :: u, v, c, b => by
  simp only [tkL]
  exact dOk_cons.2 ⟨by omega, tkL_ok q u _ _ _⟩
theorem dv_split (v : List Int) : dv v = v.headD 0 + 4294967296 * dv v.tail := by cases v <;> simp [dv]
theorem tkL_dv (q : Int) : ∀ (u v : List Int) (c b : Int), dOk u → (b = 0 ∨ b = 1) → v.length ≤ u.length →
 dv u - q * dv v - c - b = dv (tkL q u v c b).1 - pB u.length * ((tkL q u v c b).2.1 + (tkL q u v c b).2.2)
 | [], v, c, b, _, _, hl => by
  have : v = [] := List.length_eq_zero_iff.1 (by simpa using hl)
  subst this
  simp only [tkL, dv, pB, List.length_nil]
  omega
 | x :: u, v, c, b, hu, hb, hl => by
  obtain ⟨hx, hu⟩ := dOk_cons.1 hu
  have hl2 : v.tail.length ≤ u.length := by simp only [List.length_tail, List.length_cons] at hl ⊢; omega
  have ih := tkL_dv q u v.tail ((c + q * v.headD 0) / 4294967296) (if x - (c + q * v.headD 0) % 4294967296 - b < 0 then 1 else 0) hu (by split <;> simp) hl2
  simp only [tkL, dv, List.length_cons, pB]
  generalize tkL q u v.tail ((c + q * v.headD 0) / 4294967296) (if x - (c + q * v.headD 0) % 4294967296 - b < 0 then 1 else 0) = r at ih ⊢
  have e1 : q * dv v = q * v.headD 0 + 4294967296 * (q * dv v.tail) := by rw [dv_split v]; grind
  have e2 : 4294967296 * pB u.length * (r.2.1 + r.2.2) = 4294967296 * (pB u.length * (r.2.1 + r.2.2)) := by grind
  rw [e1, e2]
  generalize q * v.headD 0 = qv at *
  generalize q * dv v.tail = qt at *
  generalize pB u.length * (r.2.1 + r.2.2) = pr at *
  by_cases hd : x - (c + qv) % 4294967296 - b < 0
  ·rw [if_pos hd] at ih; omega
  ·rw [if_neg hd] at ih; omega
theorem tkL_carry (q : Int) (hq : 0 ≤ q ∧ q < 4294967296) : ∀ (u v : List Int) (c b : Int), dOk v → (0 ≤ c ∧ c < 4294967296) → (b = 0 ∨ b = 1) →
 (v.length < u.length → (tkL q u v c b).2.1 = 0) ∧ ((tkL q u v c b).2.2 = 0 ∨ (tkL q u v c b).2.2 = 1)
 | [], v, c, b, _, _, hb => ⟨fun h => absurd h (Nat.not_lt_zero _), hb⟩
 | x :: u, v, c, b, hv, hc, hb => by
  have h0 : 0 ≤ v.headD 0 ∧ v.headD 0 < 4294967296 := by
   cases v with
   | nil => decide
   | cons a v => exact (dOk_cons.1 hv).1
  have ht : dOk v.tail := by cases v with | nil => exact hv | cons a v => exact (dOk_cons.1 hv).2
  have hm : 0 ≤ q * v.headD 0 := Int.mul_nonneg hq.1 h0.1
  have hm2 : q * v.headD 0 ≤ 4294967295 * 4294967295 := Int.mul_le_mul (by omega) (by omega) h0.1 (by decide)
  have ih := tkL_carry q hq u v.tail ((c + q * v.headD 0) / 4294967296) (if x - (c + q * v.headD 0) % 4294967296 - b < 0 then 1 else 0) ht (by omega) (by split <;> simp)
  simp only [tkL]
  refine ⟨fun h => ?_, ih.2⟩
  cases v with
  | nil =>
   cases u with
   | nil => simp only [tkL, List.headD_nil]; omega
   | cons y u => exact ih.1 (by simp)
  | cons a v => exact ih.1 (by simpa using h)
def gvL : List Int → List Int → Int → List Int × Int
 | [], _, c => ([], c)
 | x :: u, v, c =>
  let t := c + (x + v.headD 0)
  let r := gvL u v.tail (t / 4294967296)
  (t % 4294967296 :: r.1, r.2)
theorem gvL_len : ∀ u v c, (gvL u v c).1.length = u.length
 | [], _, _ => rfl
 | x :: u, v, c => by simp only [gvL, List.length_cons]; rw [gvL_len u]
theorem gvL_ok : ∀ u v c, dOk (gvL u v c).1
 | [], _, _ => by intro d hd; cases hd
 | x :: u, v, c => by
  simp only [gvL]
  exact dOk_cons.2 ⟨by omega, gvL_ok u _ _⟩
theorem gvL_dv : ∀ (u v : List Int) (c : Int), v.length ≤ u.length → dv u + dv v + c = dv (gvL u v c).1 + pB u.length * (gvL u v c).2
 | [], v, c, hl => by
  have : v = [] := List.length_eq_zero_iff.1 (by simpa using hl)
  subst this
  simp [gvL, dv, pB]
 | x :: u, v, c, hl => by
  have hl2 : v.tail.length ≤ u.length := by simp only [List.length_tail, List.length_cons] at hl ⊢; omega
  have ih := gvL_dv u v.tail ((c + (x + v.headD 0)) / 4294967296) hl2
  simp only [gvL, dv, List.length_cons, pB]
  generalize gvL u v.tail ((c + (x + v.headD 0)) / 4294967296) = r at ih ⊢
  have e1 := dv_split v
  have e2 : 4294967296 * pB u.length * r.2 = 4294967296 * (pB u.length * r.2) := by grind
  rw [e1, e2]
  generalize pB u.length * r.2 = pr at *
  omega
theorem gvL_carry : ∀ (u v : List Int) (c : Int), dOk u → dOk v → (0 ≤ c ∧ c ≤ 1) → 0 ≤ (gvL u v c).2 ∧ (gvL u v c).2 ≤ 1
 | [], _, _, _, _, hc => hc
 | x :: u, v, c, hu, hv, hc => by
  obtain ⟨hx, hu⟩ := dOk_cons.1 hu
  have h0 : 0 ≤ v.headD 0 ∧ v.headD 0 < 4294967296 := by
   cases v with
   | nil => decide
   | cons a v => exact (dOk_cons.1 hv).1
  have ht : dOk v.tail := by cases v with | nil => exact hv | cons a v => exact (dOk_cons.1 hv).2
  exact gvL_carry u v.tail _ hu ht (by omega)
theorem drop_one {l : List Int} {n : Nat} (h : n < l.length) : l.drop n = l.getD n 0 :: l.drop (n + 1) := by
 rw [List.drop_eq_getElem_cons h, List.getD_eq_getElem?_getD, List.getElem?_eq_getElem h, Option.getD_some]
theorem dv_cut (l : List Int) (n : Nat) (h : n ≤ l.length) : dv l = dv (l.take n) + pB n * dv (l.drop n) := by
 have := dv_append (l.take n) (l.drop n)
 rw [List.take_append_drop, List.length_take, Nat.min_eq_left h] at this
 exact this
theorem dv_top2 {l : List Int} {n : Nat} (h : l.length = n + 2) : dv l = dv (l.take n) + pB n * (l.getD n 0 + 4294967296 * l.getD (n + 1) 0) := by
 rw [dv_cut l n (by omega), drop_one (by omega), drop_one (n := n + 1) (by omega), List.drop_of_length_le (by omega)]
 simp [dv]
theorem dv_top3 {l : List Int} {n : Nat} (h : l.length = n + 3) : dv l = dv (l.take n) + pB n * (l.getD n 0 + 4294967296 * (l.getD (n + 1) 0 + 4294967296 * l.getD (n + 2) 0)) := by
 rw [dv_cut l n (by omega), drop_one (by omega), drop_one (n := n + 1) (by omega), drop_one (n := n + 2) (by omega), List.drop_of_length_le (by omega)]
 simp [dv]
def guessL (v1 v2 u3 : Int) : Nat → Int → Int → Int
 | 0, q, _ => q
 | n + 1, q, r => if 4294967296 ≤ q ∨ r * 4294967296 + u3 < q * v2 then (if 4294967296 ≤ r + v1 then q - 1 else guessL v1 v2 u3 n (q - 1) (r + v1)) else q
theorem guessL_spec {e v1 v2 v' two u3 w' V W : Int} (he : 0 < e) (hv1 : 1 ≤ v1) (hv2 : 0 ≤ v2 ∧ v2 < 4294967296) (hv' : 0 ≤ v' ∧ v' < e) (hw' : 0 ≤ w' ∧ w' < e)
 (hu3 : 0 ≤ u3 ∧ u3 < 4294967296) (hV : V = (v1 * 4294967296 + v2) * e + v') (hW : W = (two * 4294967296 + u3) * e + w') (hVp : 0 < V) (hWB : W < 4294967296 * V) (h0W : 0 ≤ W) :
 ∀ (n : Nat) (q r : Int), q * v1 + r = two → 0 ≤ q → q ≤ 4294967297 → 0 ≤ r → r < 4294967296 → 4294967296 ≤ r + n * v1 → W < (q + 1) * V →
  0 ≤ guessL v1 v2 u3 n q r ∧ guessL v1 v2 u3 n q r < 4294967296 ∧ W < (guessL v1 v2 u3 n q r + 1) * V ∧ guessL v1 v2 u3 n q r * V ≤ W + V := by
 intro n
 induction n with
 | zero => intro q r _ _ _ _ hr hf _; simp only [Int.natCast_zero, Int.zero_mul] at hf; omega
 | succ n ih =>
  intro q r hqr hq0 hqB hr0 hr hf hup
  unfold guessL
  by_cases hbad : 4294967296 ≤ q ∨ r * 4294967296 + u3 < q * v2; rotate_left
  ·rw [if_neg hbad]
   have hq : q < 4294967296 := by omega
   exact ⟨hq0, hq, hup, guess_ok he hv1 hv2.1 hv' hw'.1 hV hW hqr hq0 hq (by omega)⟩
  rw [if_pos hbad]
  have hlow : W < q * V := by
   rcases hbad with h | h
   ·have := Int.mul_le_mul_of_nonneg_right h (Int.le_of_lt hVp)
    omega
   ·exact guess_down he hv'.1 hw'.2 hV hW hqr hq0 h
  have hq1 : 1 ≤ q := by
   rcases Int.lt_or_le q 1 with h | h
   ·have : q = 0 := by omega
    subst this
    rw [Int.zero_mul] at hlow
    omega
   ·exact h
  have hqr2 : (q - 1) * v1 + (r + v1) = two := by
   have : (q - 1) * v1 = q * v1 - v1 := by grind
   omega
  by_cases hfar : 4294967296 ≤ r + v1
  ·rw [if_pos hfar]
   have hle := guess_far (q := q - 1) he hv2 hv' hw'.1 hu3.1 hV hW hqr2 (by omega) (by omega) hfar
   refine ⟨by omega, ?_, by rw [Int.sub_add_cancel]; exact hlow, by omega⟩
   rcases Int.lt_or_le (q - 1) 4294967296 with h | h
   ·exact h
   ·have := Int.mul_le_mul_of_nonneg_right h (Int.le_of_lt hVp)
    omega
  ·rw [if_neg hfar]
   have hcast : ((n + 1 : Nat) : Int) * v1 = n * v1 + v1 := by rw [Int.natCast_add]; grind
   exact ih (q - 1) (r + v1) hqr2 (by omega) (by omega) (by omega) (by omega) (by omega) (by rw [Int.sub_add_cancel]; exact hlow)
def stepL (v u : List Int) : List Int × Int :=
 let s := v.length
 let two := u.getD s 0 * 4294967296 + u.getD (s - 1) 0
 let v1 := v.getD (s - 1) 0
 let q := guessL v1 (v.getD (s - 2) 0) (u.getD (s - 2) 0) 3 (two / v1) (two % v1)
 let t := tkL q u v 0 0
 if t.2.2 = 0 then (t.1, q) else ((gvL t.1 v 0).1, q - 1)
theorem stepL_len (v u : List Int) : (stepL v u).1.length = u.length := by
 unfold stepL
 simp only
 split
 ·exact tkL_len _ _ _ _ _
 ·rw [gvL_len, tkL_len]
theorem stepL_ok (v u : List Int) : dOk (stepL v u).1 := by
 unfold stepL
 simp only
 split
 ·exact tkL_ok _ _ _ _ _
 ·exact gvL_ok _ _ _
theorem stepL_spec {v u : List Int} {n : Nat} (hv : dOk v) (hu : dOk u) (hvl : v.length = n + 2) (hul : u.length = n + 3) (hv1 : 2147483648 ≤ v.getD (n + 1) 0) (hlt : dv u < 4294967296 * dv v) :
 ∃ k, dv (stepL v u).1 = dv u - k * dv v ∧ 0 ≤ dv (stepL v u).1 ∧ dv (stepL v u).1 < dv v ∧ 0 ≤ (stepL v u).2 ∧ (stepL v u).2 < 4294967296 := by
 have b1 := dv_bound (v.take n) (dOk_take hv n)
 have b2 := dv_bound (u.take n) (dOk_take hu n)
 rw [List.length_take, Nat.min_eq_left (by omega)] at b1 b2
 have g1 := getD_digit hv (n + 1)
 have g2 := getD_digit hv n
 have g3 := getD_digit hu n
 have g4 := getD_digit hu (n + 1)
 have g5 := getD_digit hu (n + 2)
 have hV : dv v = (v.getD (n + 1) 0 * 4294967296 + v.getD n 0) * pB n + dv (v.take n) := by rw [dv_top2 hvl]; grind
 have hW : dv u = ((u.getD (n + 2) 0 * 4294967296 + u.getD (n + 1) 0) * 4294967296 + u.getD n 0) * pB n + dv (u.take n) := by rw [dv_top3 hul]; grind
 have hp := pB_pos n
 have hVp : 0 < dv v := by
  have := Int.mul_le_mul_of_nonneg_right (show (1 : Int) ≤ v.getD (n + 1) 0 * 4294967296 + v.getD n 0 by omega) (Int.le_of_lt hp)
  omega
 have h0W := (dv_bound u hu).1
 have hdv := (dv_bound v hv).1
 have htop : u.getD (n + 2) 0 ≤ v.getD (n + 1) 0 := by
  rcases Int.lt_or_le (v.getD (n + 1) 0) (u.getD (n + 2) 0) with h | h
  ·have h2 : (v.getD (n + 1) 0 * 4294967296 + v.getD n 0 + 1) * 4294967296 * pB n ≤ ((u.getD (n + 2) 0 * 4294967296 + u.getD (n + 1) 0) * 4294967296 + u.getD n 0) * pB n := Int.mul_le_mul_of_nonneg_right (by omega) (Int.le_of_lt hp)
   have h3 : (v.getD (n + 1) 0 * 4294967296 + v.getD n 0 + 1) * 4294967296 * pB n = 4294967296 * ((v.getD (n + 1) 0 * 4294967296 + v.getD n 0) * pB n) + 4294967296 * pB n := by grind
   omega
  ·exact h
 generalize hq : guessL (v.getD (n + 1) 0) (v.getD n 0) (u.getD n 0) 3 ((u.getD (n + 2) 0 * 4294967296 + u.getD (n + 1) 0) / v.getD (n + 1) 0) ((u.getD (n + 2) 0 * 4294967296 + u.getD (n + 1) 0) % v.getD (n + 1) 0) = q
 have hs : stepL v u = (if (tkL q u v 0 0).2.2 = 0 then ((tkL q u v 0 0).1, q) else ((gvL (tkL q u v 0 0).1 v 0).1, q - 1)) := by
  unfold stepL
  rw [hvl]
  simp only [show n + 2 - 1 = n + 1 from rfl, show n + 2 - 2 = n from rfl, hq]
 have key : 0 ≤ q ∧ q < 4294967296 ∧ dv u < (q + 1) * dv v ∧ q * dv v ≤ dv u + dv v := by
  subst hq
  have t1 : 0 ≤ u.getD (n + 2) 0 * 4294967296 + u.getD (n + 1) 0 := by omega
  have t2 : u.getD (n + 2) 0 * 4294967296 + u.getD (n + 1) 0 < v.getD (n + 1) 0 * 4294967296 + 4294967296 := by omega
  generalize u.getD (n + 2) 0 * 4294967296 + u.getD (n + 1) 0 = two at *
  generalize v.getD (n + 1) 0 = v1 at *
  have e1 := Int.mul_ediv_add_emod two v1
  have e2 := Int.emod_nonneg two (show v1 ≠ 0 by omega)
  have e3 := Int.emod_lt_of_pos two (show 0 < v1 by omega)
  have e4 : two / v1 ≤ 4294967297 := by
   have : two / v1 < 4294967298 := Int.ediv_lt_of_lt_mul (by omega) (by omega)
   omega
  have e5 : 0 ≤ two / v1 := Int.ediv_nonneg (by omega) (by omega)
  refine guessL_spec hp (by omega) g2 b1 b2 g3 hV hW hVp hlt h0W 3 _ _ (by rw [Int.mul_comm]; exact e1) e5 e4 e2 (by omega) (by omega) ?_
  have e6 : (two / v1 + 1) * v1 = v1 * (two / v1) + v1 := by grind
  exact guess_up hp (by omega) g2.1 b1.1 g3.2 b2.2 hV hW (by omega) e5
 have hT := tkL_dv q u v 0 0 hu (.inl rfl) (by omega)
 have hC := tkL_carry q ⟨key.1, key.2.1⟩ u v 0 0 hv (by decide) (.inl rfl)
 have hc0 := hC.1 (by omega)
 have hTb := dv_bound _ (tkL_ok q u v 0 0)
 rw [tkL_len] at hTb
 have hup : (q + 1) * dv v = q * dv v + dv v := by grind
 rw [hs]
 rw [hc0, Int.zero_add] at hT
 by_cases hb : (tkL q u v 0 0).2.2 = 0
 ·rw [if_pos hb]
  dsimp only
  rw [hb, Int.mul_zero] at hT
  exact ⟨q, by omega, hTb.1, by omega, key.1, key.2.1⟩
 rw [if_neg hb]
 dsimp only
 have hb1 : (tkL q u v 0 0).2.2 = 1 := hC.2.resolve_left hb
 rw [hb1, Int.mul_one] at hT
 have hG := gvL_dv (tkL q u v 0 0).1 v 0 (by rw [tkL_len]; omega)
 have hGc := gvL_carry (tkL q u v 0 0).1 v 0 (tkL_ok _ _ _ _ _) hv (by decide)
 have hGb := dv_bound _ (gvL_ok (tkL q u v 0 0).1 v 0)
 rw [gvL_len, tkL_len] at hGb
 rw [tkL_len] at hG
 have hVB : dv v < pB u.length := by
  have := (dv_bound v hv).2
  rw [hvl] at this
  rw [hul]
  have h2 : pB (n + 3) = 4294967296 * pB (n + 2) := rfl
  have := pB_pos (n + 2)
  omega
 have hg1 : (gvL (tkL q u v 0 0).1 v 0).2 = 1 := by
  rcases Int.lt_or_le (gvL (tkL q u v 0 0).1 v 0).2 1 with h | h
  ·have h0 : (gvL (tkL q u v 0 0).1 v 0).2 = 0 := by omega
   rw [h0, Int.mul_zero] at hG
   omega
  ·omega
 rw [hg1, Int.mul_one] at hG
 have hm : (q - 1) * dv v = q * dv v - dv v := by grind
 have hq1 : 1 ≤ q := by
  rcases Int.lt_or_le q 1 with h | h
  ·have : q = 0 := by omega
   subst this
   simp only [Int.zero_mul] at *
   omega
  ·exact h
 exact ⟨q - 1, by omega, hGb.1, by omega, by omega, by omega⟩
def putL (u : List Int) (j n : Nat) (w : List Int) : List Int := u.take j ++ (w ++ u.drop (j + n))
theorem putL_len {u w : List Int} {j n : Nat} (hj : j + n ≤ u.length) (hw : w.length = n) : (putL u j n w).length = u.length := by
 unfold putL
 rw [List.length_append, List.length_append, List.length_take, List.length_drop, hw]
 omega
theorem putL_ok {u w : List Int} {j n : Nat} (hu : dOk u) (hw : dOk w) : dOk (putL u j n w) :=
 dOk_append.2 ⟨dOk_take hu _, dOk_append.2 ⟨hw, dOk_drop hu _⟩⟩
theorem putL_drop {u w : List Int} {j n : Nat} (hj : j ≤ u.length) : (putL u j n w).drop j = w ++ u.drop (j + n) := by
 unfold putL
 rw [List.drop_append_of_le_length (by rw [List.length_take]; omega), List.drop_of_length_le (by rw [List.length_take]; omega), List.nil_append]
def divL (v : List Int) : Nat → List Int → List Int
 | 0, u => u
 | j + 1, u => divL v j (putL u j (v.length + 1) (stepL v ((u.drop j).take (v.length + 1))).1)
theorem divL_spec {v : List Int} {n : Nat} (hv : dOk v) (hvl : v.length = n + 2) (hv1 : 2147483648 ≤ v.getD (n + 1) 0) :
 ∀ (j : Nat) (u : List Int), dOk u → j + (n + 2) ≤ u.length → dv (u.drop j) < dv v →
  ∃ k, dv (divL v j u) = dv u - k * dv v ∧ 0 ≤ dv (divL v j u) ∧ dv (divL v j u) < dv v ∧ dOk (divL v j u) ∧ (divL v j u).length = u.length
 | 0, u, hu, _, hlt => ⟨0, by simp [divL], (dv_bound u hu).1, hlt, hu, rfl⟩
 | j + 1, u, hu, hl, hlt => by
  have hwl : ((u.drop j).take (n + 3)).length = n + 3 := by rw [List.length_take, List.length_drop]; omega
  have hwok : dOk ((u.drop j).take (n + 3)) := dOk_take (dOk_drop hu j) _
  have hVb := (dv_bound v hv).2
  rw [hvl] at hVb
  have hab : dv (u.drop (j + (n + 3))) = 0 := by
   have h1 := dv_cut (u.drop (j + 1)) (n + 2) (by rw [List.length_drop]; omega)
   rw [List.drop_drop, show j + 1 + (n + 2) = j + (n + 3) by omega] at h1
   have h2 := dv_bound ((u.drop (j + 1)).take (n + 2)) (dOk_take (dOk_drop hu _) _)
   have h3 := dv_bound (u.drop (j + (n + 3))) (dOk_drop hu _)
   rcases Int.lt_or_le (dv (u.drop (j + (n + 3)))) 1 with h | h
   ·omega
   ·have := Int.mul_le_mul_of_nonneg_left h (Int.le_of_lt (pB_pos (n + 2)))
    omega
  have hwin : dv (u.drop j) = dv ((u.drop j).take (n + 3)) := by
   have h1 := dv_cut (u.drop j) (n + 3) (by rw [List.length_drop]; omega)
   rw [List.drop_drop, hab, Int.mul_zero] at h1
   omega
  have hW : dv ((u.drop j).take (n + 3)) < 4294967296 * dv v := by
   rw [← hwin, drop_one (by omega)]
   have := getD_digit hu j
   simp only [dv]
   omega
  obtain ⟨k, hk, h0, hV, _⟩ := stepL_spec hv hwok hvl hwl hv1 hW
  have hsl := stepL_len v ((u.drop j).take (n + 3))
  have hso := stepL_ok v ((u.drop j).take (n + 3))
  rw [hwl] at hsl
  have e0 : divL v (j + 1) u = divL v j (putL u j (n + 3) (stepL v ((u.drop j).take (n + 3))).1) := by
   show divL v j (putL u j (v.length + 1) (stepL v ((u.drop j).take (v.length + 1))).1) = _
   rw [hvl]
  rw [e0]
  generalize (stepL v ((u.drop j).take (n + 3))).1 = w at *
  have hdr : dv ((putL u j (n + 3) w).drop j) = dv w := by
   rw [putL_drop (by omega), dv_append, hab, Int.mul_zero, Int.add_zero]
  obtain ⟨k2, i1, i2, i3, i4, i5⟩ := divL_spec hv hvl hv1 j (putL u j (n + 3) w) (putL_ok hu hso) (by rw [putL_len (by omega) hsl]; omega) (by rw [hdr]; exact hV)
  have hpl := putL_len (u := u) (w := w) (j := j) (n := n + 3) (by omega) hsl
  have hpu : dv (putL u j (n + 3) w) = dv u - pB j * k * dv v := by
   have h1 := dv_cut (putL u j (n + 3) w) j (by omega)
   have h2 := dv_cut u j (by omega)
   have h3 : (putL u j (n + 3) w).take j = u.take j := by
    unfold putL
    rw [List.take_append_of_le_length (by rw [List.length_take]; omega), List.take_take, Nat.min_self]
   rw [h3, hdr, hk, ← hwin] at h1
   rw [h1, h2]
   grind
  exact ⟨pB j * k + k2, by rw [i1, hpu]; grind, i2, i3, i4, by rw [i5, hpl]⟩
def dCan (l : List Int) : Prop := dOk l ∧ (∀ h : l ≠ [], l.getLast h ≠ 0)
theorem dCan_top {l : List Int} (h : dCan l) {n : Nat} (hl : l.length = n + 1) : pB n ≤ dv l ∧ 1 ≤ l.getD n 0 := by
 have hn : l ≠ [] := by intro e; rw [e] at hl; simp at hl
 have h1 := dv_cut l n (by omega)
 rw [drop_one (by omega), List.drop_of_length_le (by omega)] at h1
 have h2 := getD_digit h.1 n
 have h3 : l.getLast hn = l.getD n 0 := by
  rw [List.getLast_eq_getElem, List.getD_eq_getElem?_getD, List.getElem?_eq_getElem (by omega), Option.getD_some]
  congr 1
  omega
 have h4 := h.2 hn
 rw [h3] at h4
 have h5 := dv_bound (l.take n) (dOk_take h.1 n)
 have h6 : 1 ≤ l.getD n 0 := by omega
 refine ⟨?_, h6⟩
 have h7 := Int.mul_le_mul_of_nonneg_left h6 (Int.le_of_lt (pB_pos n))
 simp only [dv, Int.mul_zero, Int.add_zero, Int.mul_one] at h1 h7
 omega
theorem pB_le {m n : Nat} (h : m ≤ n) : pB m ≤ pB n := by
 induction n with
 | zero => rw [Nat.le_zero.1 h]; exact Int.le_refl _
 | succ n ih =>
  rcases Nat.lt_or_ge n m with h1 | h1
  ·rw [show m = n + 1 by omega]; exact Int.le_refl _
  ·have := ih h1
   have := pB_pos n
   simp only [pB]
   omega
theorem dCan_len {l : List Int} (h : dCan l) {n : Nat} (h1 : pB n ≤ dv l) (h2 : dv l < pB (n + 1)) : l.length = n + 1 := by
 cases hl : l.length with
 | zero =>
  have : l = [] := List.length_eq_zero_iff.1 hl
  subst this
  have := pB_pos n
  simp only [dv] at h1
  omega
 | succ m =>
  have h3 := dCan_top h hl
  have h4 := (dv_bound l h.1).2
  rw [hl] at h4
  rcases Nat.lt_trichotomy m n with h5 | h5 | h5
  ·have := pB_le (show m + 1 ≤ n by omega); omega
  ·rw [h5]
  ·have := pB_le (show n + 1 ≤ m by omega); omega
theorem dOk_inj : ∀ {l m : List Int}, dOk l → dOk m → l.length = m.length → dv l = dv m → l = m
 | [], [], _, _, _, _ => rfl
 | [], _ :: _, _, _, h, _ => by simp at h
 | _ :: _, [], _, _, h, _ => by simp at h
 | a :: l, b :: m, h1, h2, h3, h4 => by
  obtain ⟨a1, a2⟩ := dOk_cons.1 h1
  obtain ⟨b1, b2⟩ := dOk_cons.1 h2
  simp only [dv] at h4
  rw [show a = b by omega, dOk_inj a2 b2 (by simpa using h3) (by omega)]
theorem dCan_zero {l : List Int} (h : dCan l) (h0 : dv l = 0) : l = [] := by
 cases hl : l.length with
 | zero => exact List.length_eq_zero_iff.1 hl
 | succ m => have := (dCan_top h hl).1; have := pB_pos m; omega
theorem dCan_inj {l m : List Int} (h1 : dCan l) (h2 : dCan m) (h : dv l = dv m) : l = m := by
 cases hl : l.length with
 | zero =>
  have : l = [] := List.length_eq_zero_iff.1 hl
  subst this
  rw [dCan_zero h2 h.symm]
 | succ n =>
  have h3 := dCan_top h1 hl
  have h4 := (dv_bound l h1.1).2
  rw [hl] at h4
  exact dOk_inj h1.1 h2.1 (by rw [hl, dCan_len h2 (n := n) (by omega) (by omega)]) h
end Go.Proofs.YtbkknoipgmlcmaaGreatDoor.P

namespace Go.Proofs.YtbkknoipgmlcmaaGreatDoor.P
open Go.RowKit Go.Proofs.YtbkknoipgmlcmaaGreatDoorW.PrintWords Go.Proofs.YtbkknoipgmlcmaaGreatDoorW.PrintLast Go.Proofs.YtbkknoipgmlcmaaGreatDoorW.PrintMore
theorem d64 {n : Int} (h0 : -9223372036854775808 ≤ n) (h1 : n < 9223372036854775808) : wrap64 n = n := by unfold wrap64; omega
theorem u64m (n : Int) : IntKind.u64.wrap n = n % 18446744073709551616 := by simp [IntKind.wrap, IntKind.bits, IntKind.signed]
theorem u64s {n : Int} (h0 : 0 ≤ n) (h1 : n < 18446744073709551616) : IntKind.u64.wrap n = n := by rw [u64m]; omega
theorem rd_nat (l : List Int) (i : Nat) : rd l (i : Int) = l.getD i 0 := rfl
theorem dCan_take_last {l : List Int} {n : Nat} (hl : l.length = n + 1) (h : dOk l) (h0 : l.getD n 0 = 0) : dv (l.take n) = dv l := by
 have h1 := dv_cut l n (by omega)
 rw [drop_one (by omega), List.drop_of_length_le (by omega), h0] at h1
 simp only [dv, Int.mul_zero, Int.add_zero] at h1
 omega
theorem last_getD {l : List Int} {n : Nat} (hl : l.length = n + 1) (hn : l ≠ []) : l.getLast hn = l.getD n 0 := by
 rw [List.getLast_eq_getElem, List.getD_eq_getElem?_getD, List.getElem?_eq_getElem (by omega), Option.getD_some]
 congr 1
 omega
theorem trim_ev : ∀ (n : Nat) (l : List Int), l.length = n → dOk l → n ≤ 1000000 →
 ∃ r, Ev (fun k => nat_trim.f k l) r ∧ dCan r ∧ dv r = dv l ∧ r.length ≤ n
 | 0, l, hl, _, _ => by
  have : l = [] := List.length_eq_zero_iff.1 hl
  subst this
  refine ⟨[], ?_, ⟨(fun d h => by cases h), fun h => absurd rfl h⟩, rfl, Nat.le_refl _⟩
  refine Ev.step (f := fun _ => some []) (fun k => ?_) (Ev.now _)
  show nat_trim.l0 (k + 1) [] = _
  simp [nat_trim.l0]
 | n + 1, l, hl, h, hb => by
  have e1 : wrap64 ((l.length : Int) - 1) = (n : Int) := by rw [hl, d64 (by omega) (by omega)]; omega
  by_cases h0 : l.getD n 0 = 0
  ·obtain ⟨r, hr, hc, hv, hle⟩ := trim_ev n (l.take n) (by rw [List.length_take]; omega) (dOk_take h n) (by omega)
   refine ⟨r, Ev.step (fun k => ?_) hr, hc, by rw [hv, dCan_take_last hl h h0], by omega⟩
   show nat_trim.l0 (k + 1) l = nat_trim.l0 k (l.take n)
   simp only [nat_trim.l0, e1, rd_nat, h0]
   rw [if_pos (by omega), if_pos (by omega), if_pos (by omega), if_pos trivial, if_pos (by omega), Int.toNat_natCast]
  ·refine ⟨l, Ev.step (f := fun _ => some l) (fun k => ?_) (Ev.now _), ⟨h, fun hn => by rw [last_getD hl hn]; exact h0⟩, rfl, by omega⟩
   show nat_trim.l0 (k + 1) l = _
   simp only [nat_trim.l0, e1, rd_nat]
   rw [if_pos (by omega), if_pos (by omega), if_pos (by omega), if_neg h0]
theorem cmp_ev {x y : List Int} (hx : dOk x) (hy : dOk y) (hl : x.length = y.length) (hb : x.length ≤ 1000000) : ∀ n : Nat, n ≤ x.length → x.drop n = y.drop n →
 ∃ c, Ev (fun k => nat_compare.l0 k x y ((n : Int) - 1)) c ∧ (c < 0 ↔ dv x < dv y)
 | 0, _, hd => by
  have : x = y := by simpa using hd
  subst this
  refine ⟨0, Ev.step (f := fun _ => some 0) (fun k => ?_) (Ev.now _), by omega⟩
  simp only [nat_compare.l0]
  rw [if_neg (by omega)]
 | n + 1, hn, hd => by
  have e0 : (((n + 1 : Nat) : Int) - 1) = (n : Int) := by omega
  have e1 : wrap64 ((n : Int) - 1) = (n : Int) - 1 := d64 (by omega) (by omega)
  by_cases he : x.getD n 0 = y.getD n 0
  ·obtain ⟨c, hc, hi⟩ := cmp_ev hx hy hl hb n (by omega) (by rw [drop_one (by omega), drop_one (l := y) (by omega), he, hd])
   refine ⟨c, Ev.step (fun k => ?_) hc, hi⟩
   rw [e0]
   simp only [nat_compare.l0, rd_nat, he, e1]
   rw [if_pos (by omega), if_pos (by omega), if_pos (by omega), if_pos (by omega), if_pos trivial]
  have hv : dv x < dv y ↔ x.getD n 0 < y.getD n 0 := by
   have h1 := dv_cut x n (by omega)
   have h2 := dv_cut y n (by omega)
   have b1 := dv_bound _ (dOk_take hx n)
   have b2 := dv_bound _ (dOk_take hy n)
   rw [List.length_take, Nat.min_eq_left (by omega)] at b1 b2
   rw [drop_one (by omega)] at h1
   rw [drop_one (by omega), ← hd] at h2
   simp only [dv] at h1 h2
   generalize dv (x.drop (n + 1)) = t at h1 h2
   generalize x.getD n 0 = a at *
   generalize y.getD n 0 = b at *
   have hp := pB_pos n
   rcases Int.lt_or_gt_of_ne he with h | h
   ·have := Int.mul_le_mul_of_nonneg_left (show a + 1 + 4294967296 * t ≤ b + 4294967296 * t by omega) (Int.le_of_lt hp)
    have e : pB n * (a + 1 + 4294967296 * t) = pB n * (a + 4294967296 * t) + pB n := by grind
    omega
   ·have := Int.mul_le_mul_of_nonneg_left (show b + 1 + 4294967296 * t ≤ a + 4294967296 * t by omega) (Int.le_of_lt hp)
    have e : pB n * (b + 1 + 4294967296 * t) = pB n * (b + 4294967296 * t) + pB n := by grind
    omega
  by_cases hlt : x.getD n 0 < y.getD n 0
  ·refine ⟨-1, Ev.step (f := fun _ => some (-1)) (fun k => ?_) (Ev.now _), by rw [hv]; omega⟩
   rw [e0]
   unfold nat_compare.l0
   rw [if_pos (by omega), if_pos (by omega), if_pos (by omega), if_pos (by omega), if_neg (show ¬ rd x (n : Int) = rd y (n : Int) from he), if_pos (show rd x (n : Int) < rd y (n : Int) from hlt)]
  ·refine ⟨1, Ev.step (f := fun _ => some 1) (fun k => ?_) (Ev.now _), by rw [hv]; omega⟩
   rw [e0]
   unfold nat_compare.l0
   rw [if_pos (by omega), if_pos (by omega), if_pos (by omega), if_pos (by omega), if_neg (show ¬ rd x (n : Int) = rd y (n : Int) from he), if_neg (show ¬ rd x (n : Int) < rd y (n : Int) from hlt)]
theorem compare_ev {x y : List Int} (hx : dCan x) (hy : dCan y) (hbx : x.length ≤ 1000000) (hby : y.length ≤ 1000000) : ∃ c, Ev (fun k => nat_compare.f k x y) c ∧ (c < 0 ↔ dv x < dv y) := by
 have key : x.length < y.length → dv x < dv y := by
  intro h
  have h1 := (dv_bound x hx.1).2
  have h2 := (dCan_top hy (n := y.length - 1) (by omega)).1
  have := pB_le (show x.length ≤ y.length - 1 by omega)
  omega
 have key2 : y.length < x.length → dv y < dv x := by
  intro h
  have h1 := (dv_bound y hy.1).2
  have h2 := (dCan_top hx (n := x.length - 1) (by omega)).1
  have := pB_le (show y.length ≤ x.length - 1 by omega)
  omega
 rcases Nat.lt_trichotomy x.length y.length with h | h | h
 ·refine ⟨-1, Ev.congr (f := fun _ => some (-1)) (fun k => ?_) (Ev.now _), by have := key h; omega⟩
  unfold nat_compare.f
  rw [if_pos (by omega)]
 ·obtain ⟨c, hc, hi⟩ := cmp_ev hx.1 hy.1 h hbx x.length (Nat.le_refl _) (by rw [List.drop_of_length_le (Nat.le_refl _), List.drop_of_length_le (by omega)])
  refine ⟨c, Ev.congr (fun k => ?_) hc, hi⟩
  unfold nat_compare.f
  rw [if_neg (by omega), if_neg (by omega), d64 (by omega) (by omega)]
 ·refine ⟨1, Ev.congr (f := fun _ => some 1) (fun k => ?_) (Ev.now _), by have := key2 h; omega⟩
  unfold nat_compare.f
  rw [if_neg (by omega), if_pos (by omega)]
theorem or_u64 {a b : Int} (ha : 0 ≤ a ∧ a < 4294967296) (hb : 0 ≤ b ∧ b < 4294967296) : bits .or .u64 (a * 4294967296) b = a * 4294967296 + b :=
 bits_join .u64 64 (by decide) (fun n h0 h1 => by rw [u64m]; omega) 32 _ _ (by omega) (by omega) (by omega) hb.1 hb.2 (by omega)
theorem short_ev {x : List Int} {y : Int} (hx : dOk x) (hy : 1 ≤ y ∧ y < 4294967296) (hb : x.length ≤ 1000000) : ∀ (n : Nat) (o : List Int) (rest : Int), n ≤ x.length → o.length = x.length → dOk o →
 rest = dv (x.drop n) % y → ∃ q, Ev (fun k => nat_short.l0 k x y o rest ((n : Int) - 1)) (q, dv x % y) ∧ dCan q
 | 0, o, rest, _, ho, hok, hr => by
  obtain ⟨q, hq, hc, _, _⟩ := trim_ev o.length o rfl hok (by omega)
  refine ⟨q, ?_, hc⟩
  have hm := Int.emod_nonneg (dv x) (show y ≠ 0 by omega)
  have hm2 := Int.emod_lt_of_pos (dv x) (show 0 < y by omega)
  refine Ev.step (f := fun k => (nat_trim.f k o).bind fun t => some (t, rest % 4294967296)) (fun k => ?_) (Ev.bind hq (Ev.congr (f := fun _ => some (q, dv x % y)) (fun k => ?_) (Ev.now _)))
  ·simp only [nat_short.l0]
   rw [if_neg (by omega)]
  ·rw [hr, List.drop_zero, Int.emod_eq_of_lt hm (by omega)]
 | n + 1, o, rest, hn, ho, hok, hr => by
  have hm := Int.emod_nonneg (dv (x.drop (n + 1))) (show y ≠ 0 by omega)
  have hm2 := Int.emod_lt_of_pos (dv (x.drop (n + 1))) (show 0 < y by omega)
  have hg := getD_digit hx n
  have e0 : (((n + 1 : Nat) : Int) - 1) = (n : Int) := by omega
  have e1 : wrap64 ((n : Int) - 1) = (n : Int) - 1 := d64 (by omega) (by omega)
  have ey : IntKind.u64.wrap y = y := u64s (by omega) (by omega)
  have er : IntKind.u64.wrap (rest * 4294967296) = rest * 4294967296 := u64s (by omega) (by omega)
  have ex : IntKind.u64.wrap (rd x (n : Int)) = x.getD n 0 := by rw [rd_nat]; exact u64s (by omega) (by omega)
  have eo := or_u64 (a := rest) (b := x.getD n 0) (by omega) hg
  have hrest : (rest * 4294967296 + x.getD n 0) % y = dv (x.drop n) % y := by
   rw [drop_one (by omega), hr]
   simp only [dv]
   have := Int.mul_ediv_add_emod (dv (x.drop (n + 1))) y
   have e : x.getD n 0 + 4294967296 * dv (x.drop (n + 1)) = (dv (x.drop (n + 1)) % y * 4294967296 + x.getD n 0) + y * (4294967296 * (dv (x.drop (n + 1)) / y)) := by grind
   rw [e, Int.add_mul_emod_self_left]
  have et : Int.tmod (rest * 4294967296 + x.getD n 0) y = (rest * 4294967296 + x.getD n 0) % y := Int.tmod_eq_emod_of_nonneg (by omega)
  obtain ⟨q, hq, hc⟩ := short_ev hx hy hb n (o.set n (IntKind.u64.wrap (Int.tdiv (rest * 4294967296 + x.getD n 0) y) % 4294967296)) (dv (x.drop n) % y) (by omega) (by rw [List.length_set]; exact ho) (dOk_set hok n (by omega)) rfl
  refine ⟨q, Ev.step (fun k => ?_) hq, hc⟩
  rw [e0]
  simp only [nat_short.l0, ey, er, ex, eo, e1, et, hrest]
  rw [if_pos (by omega), if_pos (by omega), if_pos (by omega), if_neg (by omega), if_pos (by omega), Int.toNat_natCast]
end Go.Proofs.YtbkknoipgmlcmaaGreatDoor.P

