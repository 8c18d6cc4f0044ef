import Derived.LoopN
import Derived.Handy
import Derived.IntWalk
import Derived.Test.YtbkknoipgmlcmaaGreatDoorQGM10
set_option linter.all false
set_option maxHeartbeats 8000000
set_option maxRecDepth 100000
namespace Go.Proofs.QP
open Go.RowKit Go.Proofs.PW Go.Proofs.PL Go.Proofs.PM Go.Proofs.FX
def z0u (u : List Int) (j n : Nat) (w : List Int) : List Int := u.take j ++ (w ++ u.drop (j + n))
theorem z2G {u w : List Int} {j n : Nat} (hj : j + n ≤ u.length) (hw : w.length = n) : (z0u u j n w).length = u.length := by
 unfold z0u
 rw [List.length_append, List.length_append, List.length_take, List.length_drop, hw]
 omega
theorem z4t {u w : List Int} {j n : Nat} (hu : dOk u) (hw : dOk w) : dOk (z0u u j n w) :=
 z0U.2 ⟨xc hu _, z0U.2 ⟨hw, z11 hu _⟩⟩
theorem z2W {u w : List Int} {j n : Nat} (hj : j ≤ u.length) : (z0u u j n w).drop j = w ++ u.drop (j + n) := by
 unfold z0u
 rw [List.drop_append_of_le_length (by rw [List.length_take]; omega), List.drop_of_length_le (by rw [List.length_take]; omega), List.nil_append]
def z1P (v : List Int) : Nat → List Int → List Int
 | 0, u => u
 | j + 1, u => z1P v j (z0u u j (v.length + 1) (z0v v ((u.drop j).take (v.length + 1))).1)
theorem z5w {v : List Int} {n : Nat} (hv : dOk v) (hvl : v.length = n + 2) (hv1 : 2147483648 ≤ v.getD (n + 1) 0) :
 ∀ (j : Nat) (u : List Int), dOk u → j + (n + 2) ≤ u.length → dv (u.drop j) < dv v →
  ∃ k, dv (z1P v j u) = dv u - k * dv v ∧ 0 ≤ dv (z1P v j u) ∧ dv (z1P v j u) < dv v ∧ dOk (z1P v j u) ∧ (z1P v j u).length = u.length
 | 0, u, hu, _, hlt => ⟨0, by simp [z1P], (yc u hu).1, hlt, hu, rfl⟩
 | j + 1, u, hu, hl, hlt => by
  have hwl : ((u.drop j).take (n + 3)).length = n + 3 := by rw [List.length_take, List.length_drop]; omega
  have hwok : dOk ((u.drop j).take (n + 3)) := xc (z11 hu j) _
  have hVb := (yc v hv).2
  rw [hvl] at hVb
  have hab : dv (u.drop (j + (n + 3))) = 0 := by
   have h1 := z0E (u.drop (j + 1)) (n + 2) (by rw [List.length_drop]; omega)
   rw [List.drop_drop, show j + 1 + (n + 2) = j + (n + 3) by omega] at h1
   have h2 := yc ((u.drop (j + 1)).take (n + 2)) (xc (z11 hu _) _)
   have h3 := yc (u.drop (j + (n + 3))) (z11 hu _)
   rcases Int.lt_or_le (dv (u.drop (j + (n + 3)))) 1 with h | h
   ·omega
   ·have := Int.mul_le_mul_of_nonneg_left h (Int.le_of_lt (z0N (n + 2)))
    omega
  have hwin : dv (u.drop j) = dv ((u.drop j).take (n + 3)) := by
   have h1 := z0E (u.drop j) (n + 3) (by rw [List.length_drop]; omega)
   rw [List.drop_drop, hab, Int.mul_zero] at h1
   omega
  have hW : dv ((u.drop j).take (n + 3)) < 4294967296 * dv v := by
   rw [← hwin, drop_one (by omega)]
   have := zX hu j
   simp only [dv]
   omega
  obtain ⟨k, hk, h0, hV, _⟩ := z54 hv hwok hvl hwl hv1 hW
  have hsl := z5V v ((u.drop j).take (n + 3))
  have hso := z7c v ((u.drop j).take (n + 3))
  rw [hwl] at hsl
  have e0 : z1P v (j + 1) u = z1P v j (z0u u j (n + 3) (z0v v ((u.drop j).take (n + 3))).1) := by
   show z1P v j (z0u u j (v.length + 1) (z0v v ((u.drop j).take (v.length + 1))).1) = _
   rw [hvl]
  rw [e0]
  generalize (z0v v ((u.drop j).take (n + 3))).1 = w at *
  have hdr : dv ((z0u u j (n + 3) w).drop j) = dv w := by
   rw [z2W (by omega), z2P, hab, Int.mul_zero, Int.add_zero]
  obtain ⟨k2, i1, i2, i3, i4, i5⟩ := z5w hv hvl hv1 j (z0u u j (n + 3) w) (z4t hu hso) (by rw [z2G (by omega) hsl]; omega) (by rw [hdr]; exact hV)
  have hpl := z2G (u := u) (w := w) (j := j) (n := n + 3) (by omega) hsl
  have hpu : dv (z0u u j (n + 3) w) = dv u - pB j * k * dv v := by
   have h1 := z0E (z0u u j (n + 3) w) j (by omega)
   have h2 := z0E u j (by omega)
   have h3 : (z0u u j (n + 3) w).take j = u.take j := by
    unfold z0u
    rw [List.take_append_of_le_length (by rw [List.length_take]; omega), List.take_take, Nat.min_self]
   rw [h3, hdr, hk, ← hwin] at h1
   rw [h1, h2]
   grind
  exact ⟨pB j * k + k2, by rw [i1, hpu]; grind, i2, i3, i4, by rw [i5, hpl]⟩
def yG (l : List Int) : Prop := dOk l ∧ (∀ h : l ≠ [], l.getLast h ≠ 0)
theorem z0b {l : List Int} (h : yG l) {n : Nat} (hl : l.length = n + 1) : pB n ≤ dv l ∧ 1 ≤ l.getD n 0 := by
 have hn : l ≠ [] := by intro e; rw [e] at hl; simp at hl
 have h1 := z0E l n (by omega)
 rw [drop_one (by omega), List.drop_of_length_le (by omega)] at h1
 have h2 := zX h.1 n
 have h3 : l.getLast hn = l.getD n 0 := by
  rw [List.getLast_eq_getElem, List.getD_eq_getElem?_getD, List.getElem?_eq_getElem (by omega), Option.getD_some]
  congr 1
  omega
 have h4 := h.2 hn
 rw [h3] at h4
 have h5 := yc (l.take n) (xc h.1 n)
 have h6 : 1 ≤ l.getD n 0 := by omega
 refine ⟨?_, h6⟩
 have h7 := Int.mul_le_mul_of_nonneg_left h6 (Int.le_of_lt (z0N n))
 simp only [dv, Int.mul_zero, Int.add_zero, Int.mul_one] at h1 h7
 omega
theorem z3C {m n : Nat} (h : m ≤ n) : pB m ≤ pB n := by
 induction n with
 | zero => rw [Nat.le_zero.1 h]; exact Int.le_refl _
 | succ n ih =>
  rcases Nat.lt_or_ge n m with h1 | h1
  ·rw [show m = n + 1 by omega]; exact Int.le_refl _
  ·have := ih h1
   have := z0N n
   simp only [pB]
   omega
theorem z6G {l : List Int} (h : yG l) {n : Nat} (h1 : pB n ≤ dv l) (h2 : dv l < pB (n + 1)) : l.length = n + 1 := by
 cases hl : l.length with
 | zero =>
  have : l = [] := List.length_eq_zero_iff.1 hl
  subst this
  have := z0N n
  simp only [dv] at h1
  omega
 | succ m =>
  have h3 := z0b h hl
  have h4 := (yc l h.1).2
  rw [hl] at h4
  rcases Nat.lt_trichotomy m n with h5 | h5 | h5
  ·have := z3C (show m + 1 ≤ n by omega); omega
  ·rw [h5]
  ·have := z3C (show n + 1 ≤ m by omega); omega
theorem z8p : ∀ {l m : List Int}, dOk l → dOk m → l.length = m.length → dv l = dv m → l = m
 | [], [], _, _, _, _ => rfl
 | [], _ :: _, _, _, h, _ => by simp at h
 | _ :: _, [], _, _, h, _ => by simp at h
 | a :: l, b :: m, h1, h2, h3, h4 => by
  obtain ⟨a1, a2⟩ := yp.1 h1
  obtain ⟨b1, b2⟩ := yp.1 h2
  simp only [dv] at h4
  rw [show a = b by omega, z8p a2 b2 (by simpa using h3) (by omega)]
theorem z5v {l : List Int} (h : yG l) (h0 : dv l = 0) : l = [] := by
 cases hl : l.length with
 | zero => exact List.length_eq_zero_iff.1 hl
 | succ m => have := (z0b h hl).1; have := z0N m; omega
theorem z3x {l m : List Int} (h1 : yG l) (h2 : yG m) (h : dv l = dv m) : l = m := by
 cases hl : l.length with
 | zero =>
  have : l = [] := List.length_eq_zero_iff.1 hl
  subst this
  rw [z5v h2 h.symm]
 | succ n =>
  have h3 := z0b h1 hl
  have h4 := (yc l h1.1).2
  rw [hl] at h4
  exact z8p h1.1 h2.1 (by rw [hl, z6G h2 (n := n) (by omega) (by omega)]) h
theorem d64 {n : Int} (h0 : -9223372036854775808 ≤ n) (h1 : n < 9223372036854775808) : wrap64 n = n := by unfold wrap64; omega
theorem zbc (n : Int) : IntKind.u64.wrap n = n % 18446744073709551616 := by simp [IntKind.wrap, IntKind.bits, IntKind.signed]
theorem z0P {n : Int} (h0 : 0 ≤ n) (h1 : n < 18446744073709551616) : IntKind.u64.wrap n = n := by rw [zbc]; omega
theorem xL (l : List Int) (i : Nat) : rd l (i : Int) = l.getD i 0 := rfl
theorem z4J {l : List Int} {n : Nat} (hl : l.length = n + 1) (h : dOk l) (h0 : l.getD n 0 = 0) : dv (l.take n) = dv l := by
 have h1 := z0E l n (by omega)
 rw [drop_one (by omega), List.drop_of_length_le (by omega), h0] at h1
 simp only [dv, Int.mul_zero, Int.add_zero] at h1
 omega
theorem z2S {l : List Int} {n : Nat} (hl : l.length = n + 1) (hn : l ≠ []) : l.getLast hn = l.getD n 0 := by
 rw [List.getLast_eq_getElem, List.getD_eq_getElem?_getD, List.getElem?_eq_getElem (by omega), Option.getD_some]
 congr 1
 omega
theorem z2Z : ∀ (n : Nat) (l : List Int), l.length = n → dOk l → n ≤ 1000000 →
 ∃ r, Ev (fun k => yA.f k l) r ∧ yG r ∧ dv r = dv l ∧ r.length ≤ n
 | 0, l, hl, _, _ => by
  have : l = [] := List.length_eq_zero_iff.1 hl
  subst this
  refine ⟨[], ?_, ⟨(fun d h => by cases h), fun h => absurd rfl h⟩, rfl, Nat.le_refl _⟩
  refine Ev.step (f := fun _ => some []) (fun k => ?_) (Ev.now _)
  show yA.l0 (k + 1) [] = _
  simp [yA.l0]
 | n + 1, l, hl, h, hb => by
  have e1 : wrap64 ((l.length : Int) - 1) = (n : Int) := by rw [hl, d64 (by omega) (by omega)]; omega
  by_cases h0 : l.getD n 0 = 0
  ·obtain ⟨r, hr, hc, hv, hle⟩ := z2Z n (l.take n) (by rw [List.length_take]; omega) (xc h n) (by omega)
   refine ⟨r, Ev.step (fun k => ?_) hr, hc, by rw [hv, z4J hl h h0], by omega⟩
   show yA.l0 (k + 1) l = yA.l0 k (l.take n)
   simp only [yA.l0, e1, xL, h0]
   rw [if_pos (by omega), if_pos (by omega), if_pos (by omega), if_pos trivial, if_pos (by omega), Int.toNat_natCast]
  ·refine ⟨l, Ev.step (f := fun _ => some l) (fun k => ?_) (Ev.now _), ⟨h, fun hn => by rw [z2S hl hn]; exact h0⟩, rfl, by omega⟩
   show yA.l0 (k + 1) l = _
   simp only [yA.l0, e1, xL]
   rw [if_pos (by omega), if_pos (by omega), if_pos (by omega), if_neg h0]
theorem za3 {x y : List Int} (hx : dOk x) (hy : dOk y) (hl : x.length = y.length) (hb : x.length ≤ 1000000) : ∀ n : Nat, n ≤ x.length → x.drop n = y.drop n →
 ∃ c, Ev (fun k => yl.l0 k x y ((n : Int) - 1)) c ∧ (c < 0 ↔ dv x < dv y)
 | 0, _, hd => by
  have : x = y := by simpa using hd
  subst this
  refine ⟨0, Ev.step (f := fun _ => some 0) (fun k => ?_) (Ev.now _), by omega⟩
  simp only [yl.l0]
  rw [if_neg (by omega)]
 | n + 1, hn, hd => by
  have e0 : (((n + 1 : Nat) : Int) - 1) = (n : Int) := by omega
  have e1 : wrap64 ((n : Int) - 1) = (n : Int) - 1 := d64 (by omega) (by omega)
  by_cases he : x.getD n 0 = y.getD n 0
  ·obtain ⟨c, hc, hi⟩ := za3 hx hy hl hb n (by omega) (by rw [drop_one (by omega), drop_one (l := y) (by omega), he, hd])
   refine ⟨c, Ev.step (fun k => ?_) hc, hi⟩
   rw [e0]
   simp only [yl.l0, xL, he, e1]
   rw [if_pos (by omega), if_pos (by omega), if_pos (by omega), if_pos (by omega), if_pos trivial]
  have hv : dv x < dv y ↔ x.getD n 0 < y.getD n 0 := by
   have h1 := z0E x n (by omega)
   have h2 := z0E y n (by omega)
   have b1 := yc _ (xc hx n)
   have b2 := yc _ (xc hy n)
   rw [List.length_take, Nat.min_eq_left (by omega)] at b1 b2
   rw [drop_one (by omega)] at h1
   rw [drop_one (by omega), ← hd] at h2
   simp only [dv] at h1 h2
   generalize dv (x.drop (n + 1)) = t at h1 h2
   generalize x.getD n 0 = a at *
   generalize y.getD n 0 = b at *
   have hp := z0N n
   rcases Int.lt_or_gt_of_ne he with h | h
   ·have := Int.mul_le_mul_of_nonneg_left (show a + 1 + 4294967296 * t ≤ b + 4294967296 * t by omega) (Int.le_of_lt hp)
    have e : pB n * (a + 1 + 4294967296 * t) = pB n * (a + 4294967296 * t) + pB n := by grind
    omega
   ·have := Int.mul_le_mul_of_nonneg_left (show b + 1 + 4294967296 * t ≤ a + 4294967296 * t by omega) (Int.le_of_lt hp)
    have e : pB n * (b + 1 + 4294967296 * t) = pB n * (b + 4294967296 * t) + pB n := by grind
    omega
  by_cases hlt : x.getD n 0 < y.getD n 0
  ·refine ⟨-1, Ev.step (f := fun _ => some (-1)) (fun k => ?_) (Ev.now _), by rw [hv]; omega⟩
   rw [e0]
   unfold yl.l0
   rw [if_pos (by omega), if_pos (by omega), if_pos (by omega), if_pos (by omega), if_neg (show ¬ rd x (n : Int) = rd y (n : Int) from he), if_pos (show rd x (n : Int) < rd y (n : Int) from hlt)]
  ·refine ⟨1, Ev.step (f := fun _ => some 1) (fun k => ?_) (Ev.now _), by rw [hv]; omega⟩
   rw [e0]
   unfold yl.l0
   rw [if_pos (by omega), if_pos (by omega), if_pos (by omega), if_pos (by omega), if_neg (show ¬ rd x (n : Int) = rd y (n : Int) from he), if_neg (show ¬ rd x (n : Int) < rd y (n : Int) from hlt)]
theorem z3j {x y : List Int} (hx : yG x) (hy : yG y) (hbx : x.length ≤ 1000000) (hby : y.length ≤ 1000000) : ∃ c, Ev (fun k => yl.f k x y) c ∧ (c < 0 ↔ dv x < dv y) := by
 have key : x.length < y.length → dv x < dv y := by
  intro h
  have h1 := (yc x hx.1).2
  have h2 := (z0b hy (n := y.length - 1) (by omega)).1
  have := z3C (show x.length ≤ y.length - 1 by omega)
  omega
 have key2 : y.length < x.length → dv y < dv x := by
  intro h
  have h1 := (yc y hy.1).2
  have h2 := (z0b hx (n := x.length - 1) (by omega)).1
  have := z3C (show y.length ≤ x.length - 1 by omega)
  omega
 rcases Nat.lt_trichotomy x.length y.length with h | h | h
 ·refine ⟨-1, Ev.congr (f := fun _ => some (-1)) (fun k => ?_) (Ev.now _), by have := key h; omega⟩
  unfold yl.f
  rw [if_pos (by omega)]
 ·obtain ⟨c, hc, hi⟩ := za3 hx.1 hy.1 h hbx x.length (Nat.le_refl _) (by rw [List.drop_of_length_le (Nat.le_refl _), List.drop_of_length_le (by omega)])
  refine ⟨c, Ev.congr (fun k => ?_) hc, hi⟩
  unfold yl.f
  rw [if_neg (by omega), if_neg (by omega), d64 (by omega) (by omega)]
 ·refine ⟨1, Ev.congr (f := fun _ => some 1) (fun k => ?_) (Ev.now _), by have := key2 h; omega⟩
  unfold yl.f
  rw [if_neg (by omega), if_pos (by omega)]
theorem z7V {a b : Int} (ha : 0 ≤ a ∧ a < 4294967296) (hb : 0 ≤ b ∧ b < 4294967296) : bits .or .u64 (a * 4294967296) b = a * 4294967296 + b :=
 bits_join .u64 64 (by decide) (fun n h0 h1 => by rw [zbc]; omega) 32 _ _ (by omega) (by omega) (by omega) hb.1 hb.2 (by omega)
theorem z7b {x : List Int} {y : Int} (hx : dOk x) (hy : 1 ≤ y ∧ y < 4294967296) (hb : x.length ≤ 1000000) : ∀ (n : Nat) (o : List Int) (rest : Int), n ≤ x.length → o.length = x.length → dOk o →
 rest = dv (x.drop n) % y → ∃ q, Ev (fun k => xK.l0 k x y o rest ((n : Int) - 1)) (q, dv x % y) ∧ yG q
 | 0, o, rest, _, ho, hok, hr => by
  obtain ⟨q, hq, hc, _, _⟩ := z2Z o.length o rfl hok (by omega)
  refine ⟨q, ?_, hc⟩
  have hm := Int.emod_nonneg (dv x) (show y ≠ 0 by omega)
  have hm2 := Int.emod_lt_of_pos (dv x) (show 0 < y by omega)
  refine Ev.step (f := fun k => (yA.f k o).bind fun t => some (t, rest % 4294967296)) (fun k => ?_) (Ev.bind hq (Ev.congr (f := fun _ => some (q, dv x % y)) (fun k => ?_) (Ev.now _)))
  ·simp only [xK.l0]
   rw [if_neg (by omega)]
  ·rw [hr, List.drop_zero, Int.emod_eq_of_lt hm (by omega)]
 | n + 1, o, rest, hn, ho, hok, hr => by
  have hm := Int.emod_nonneg (dv (x.drop (n + 1))) (show y ≠ 0 by omega)
  have hm2 := Int.emod_lt_of_pos (dv (x.drop (n + 1))) (show 0 < y by omega)
  have hg := zX hx n
  have e0 : (((n + 1 : Nat) : Int) - 1) = (n : Int) := by omega
  have e1 : wrap64 ((n : Int) - 1) = (n : Int) - 1 := d64 (by omega) (by omega)
  have ey : IntKind.u64.wrap y = y := z0P (by omega) (by omega)
  have er : IntKind.u64.wrap (rest * 4294967296) = rest * 4294967296 := z0P (by omega) (by omega)
  have ex : IntKind.u64.wrap (rd x (n : Int)) = x.getD n 0 := by rw [xL]; exact z0P (by omega) (by omega)
  have eo := z7V (a := rest) (b := x.getD n 0) (by omega) hg
  have hrest : (rest * 4294967296 + x.getD n 0) % y = dv (x.drop n) % y := by
   rw [drop_one (by omega), hr]
   simp only [dv]
   have := Int.mul_ediv_add_emod (dv (x.drop (n + 1))) y
   have e : x.getD n 0 + 4294967296 * dv (x.drop (n + 1)) = (dv (x.drop (n + 1)) % y * 4294967296 + x.getD n 0) + y * (4294967296 * (dv (x.drop (n + 1)) / y)) := by grind
   rw [e, Int.add_mul_emod_self_left]
  have et : Int.tmod (rest * 4294967296 + x.getD n 0) y = (rest * 4294967296 + x.getD n 0) % y := Int.tmod_eq_emod_of_nonneg (by omega)
  obtain ⟨q, hq, hc⟩ := z7b hx hy hb n (o.set n (IntKind.u64.wrap (Int.tdiv (rest * 4294967296 + x.getD n 0) y) % 4294967296)) (dv (x.drop n) % y) (by omega) (by rw [List.length_set]; exact ho) (z6h hok n (by omega)) rfl
  refine ⟨q, Ev.step (fun k => ?_) hq, hc⟩
  rw [e0]
  simp only [xK.l0, ey, er, ex, eo, e1, et, hrest]
  rw [if_pos (by omega), if_pos (by omega), if_pos (by omega), if_neg (by omega), if_pos (by omega), Int.toNat_natCast]
theorem w32 (n : Int) (h0 : 0 ≤ n) (h1 : n < 2 ^ 32) : IntKind.u32.wrap n = n := by rw [IntKind.wrap_u32]; omega
theorem z4U {i : Nat} {a b : Int} (ha : 0 ≤ a ∧ a < 4294967296) (hb : 0 ≤ b ∧ b < 4294967296) (hm : a % 2 ^ i = 0) (hl : b < 2 ^ i) : bits .or .u32 a b = a + b ∧ bits .or .u32 b a = a + b := by
 have h := bits_join .u32 32 (by decide) w32 i a b ha.1 hm (by omega) hb.1 hl (by omega)
 refine ⟨h, ?_⟩
 obtain ⟨m, rfl⟩ := Int.eq_ofNat_of_zero_le ha.1
 obtain ⟨n, rfl⟩ := Int.eq_ofNat_of_zero_le hb.1
 rw [(bits_nat .u32 32 (by decide) w32 n m (by omega) (by omega)).2, Nat.or_comm, ← (bits_nat .u32 32 (by decide) w32 m n (by omega) (by omega)).2, h]
theorem z6u (p : List Int) (c v : Int) (z : List Int) : (p ++ c :: z).set p.length v = p ++ v :: z := by
 rw [List.set_append_right _ _ (Nat.le_refl _), Nat.sub_self]; rfl
theorem z8y (p : List Int) (c : Int) (z : List Int) : (p ++ c :: z).getD p.length 0 = c := by
 rw [List.getD_eq_getElem?_getD, List.getElem?_append_right (Nat.le_refl _), Nat.sub_self]; rfl
theorem z6w {n : Nat} (h : n < 32) : ∃ e f : Int, (2 : Int) ^ n = e ∧ (2 : Int) ^ (32 - n) = f ∧ e * f = 4294967296 ∧ 1 ≤ e ∧ 2 ≤ f := by
 refine ⟨_, _, rfl, rfl, ?_, ?_, ?_⟩
 ·rw [← Int.pow_add, show n + (32 - n) = 32 by omega]; decide
 ·have : (0 : Int) < 2 ^ n := Int.pow_pos (by decide)
  omega
 ·have : (0 : Int) < 2 ^ (31 - n) := Int.pow_pos (by decide)
  have e : (2 : Int) ^ (32 - n) = 2 ^ (31 - n) * 2 := by rw [← Int.pow_succ]; congr 1; omega
  omega
theorem z1M (p : List Int) (c : Int) : dv (p ++ [c]) = dv p + pB p.length * c := by
 rw [z2P]
 simp [dv]
theorem z3y (x : List Int) (i : Nat) (h : i < x.length) : dv (x.take (i + 1)) = dv (x.take i) + pB i * x.getD i 0 := by
 have e : x.take (i + 1) = x.take i ++ [x.getD i 0] := by
  rw [List.getD_eq_getElem?_getD, List.getElem?_eq_getElem h, Option.getD_some, List.take_succ_eq_append_getElem h]
 rw [e, z1M, List.length_take, Nat.min_eq_left (by omega)]
def pB1 (P : Int) : Int := 4294967296 * P
theorem zaA (P D X d e c t : Int) (hv : D + P * c = X * e) (ht : d * e = t) : D + P * (t % 4294967296 + c) + pB1 P * (t / 4294967296) = (X + P * d) * e := by
 have h4 := Int.mul_ediv_add_emod t 4294967296
 unfold pB1
 generalize t / 4294967296 = a at *
 generalize t % 4294967296 = b at *
 grind
theorem zbT {x : List Int} {n : Nat} {e f : Int} (hx : dOk x) (hn : n < 32) (he : (2 : Int) ^ n = e) (hf : (2 : Int) ^ (32 - n) = f) (hef : e * f = 4294967296) (he1 : 1 ≤ e) (hf2 : 2 ≤ f) (hb : x.length ≤ 1000000) :
 ∀ (j i : Nat) (p : List Int) (c : Int), i + j = x.length → p.length = i → dOk p → 0 ≤ c → c < e → dv (p ++ [c]) = dv (x.take i) * e →
  ∃ r, Ev (fun k => xS.l0 k (n : Int) (p ++ c :: List.replicate j 0) x (x.length : Int) (i : Int)) r ∧ dOk r ∧ r.length = x.length + 1 ∧ dv r = dv x * e := by
 intro j
 induction j with
 | zero =>
  intro i p c hij hp hpo hc0 hce hv
  have heB : e ≤ 4294967296 := by
   have := Int.mul_le_mul_of_nonneg_left (show (1 : Int) ≤ f by omega) (show 0 ≤ e by omega)
   omega
  refine ⟨p ++ [c], Ev.step (f := fun _ => some (p ++ [c])) (fun k => ?_) (Ev.now _), z0U.2 ⟨hpo, yp.2 ⟨by omega, fun d hd => by cases hd⟩⟩, by rw [List.length_append, hp]; simp; omega, ?_⟩
  ·simp only [xS.l0]
   rw [if_neg (by omega)]
   rfl
  ·rw [hv, List.take_of_length_le (by omega)]
 | succ j ih =>
  intro i p c hij hp hpo hc0 hce hv
  have hg := zX hx i
  have heB : e ≤ 4294967296 := by
   have := Int.mul_le_mul_of_nonneg_left (show (1 : Int) ≤ f by omega) (show 0 ≤ e by omega)
   omega
  have e1 : wrap64 ((i : Int) + 1) = ((i + 1 : Nat) : Int) := by rw [d64 (by omega) (by omega)]; omega
  have hd0 : 0 ≤ x.getD i 0 * e := Int.mul_nonneg hg.1 (by omega)
  have hd1 : x.getD i 0 * e < 4294967296 * e := Int.mul_lt_mul_of_pos_right hg.2 (by omega)
  have hd2 : 4294967296 * e ≤ 4294967296 * 4294967296 := Int.mul_le_mul_of_nonneg_left heB (by decide)
  have es : shl .u64 (IntKind.u64.wrap (rd x (i : Int))) (n : Int) = x.getD i 0 * e := by
   unfold shl
   rw [xL, z0P (n := x.getD i 0) hg.1 (by omega), Int.toNat_natCast, Nat.min_eq_left (by show n ≤ 64; omega), he]
   exact z0P hd0 (by omega)
  generalize ht : x.getD i 0 * e = t at *
  have hmod : t % 4294967296 = e * (x.getD i 0 % f) := by
   rw [← ht, ← hef, Int.mul_comm (x.getD i 0) e, Int.mul_emod_mul_of_pos _ _ (by omega)]
  have hmul : (t % 4294967296) % 2 ^ n = 0 := by rw [he, hmod]; exact Int.mul_emod_right e _
  have hr := xL (p ++ c :: List.replicate (j + 1) 0) i
  have hg2 : (p ++ c :: List.replicate (j + 1) 0).getD i 0 = c := by rw [← hp]; exact z8y _ _ _
  have hm0 := Int.emod_nonneg t (show (4294967296 : Int) ≠ 0 by decide)
  have hm1 := Int.emod_lt_of_pos t (show (0 : Int) < 4294967296 by decide)
  have ho := (z4U (i := n) ⟨hm0, hm1⟩ ⟨hc0, by omega⟩ hmul (by rw [he]; exact hce)).2
  have htq : t / 4294967296 < e := Int.ediv_lt_of_lt_mul (by decide) (by omega)
  have htq0 : 0 ≤ t / 4294967296 := Int.ediv_nonneg hd0 (by decide)
  have hsum : t % 4294967296 + c < 4294967296 := by
   have h1 : x.getD i 0 % f + 1 ≤ f := by have := Int.emod_lt_of_pos (x.getD i 0) (show 0 < f by omega); omega
   have h2 := Int.mul_le_mul_of_nonneg_left h1 (show 0 ≤ e by omega)
   have h3 : e * (x.getD i 0 % f + 1) = e * (x.getD i 0 % f) + e := by grind
   omega
  have hset : ((p ++ c :: List.replicate (j + 1) 0).set i (t % 4294967296 + c)).set (i + 1) (t / 4294967296 % 4294967296) = (p ++ [t % 4294967296 + c]) ++ (t / 4294967296) :: List.replicate j 0 := by
   rw [← hp, z6u, show p ++ (t % 4294967296 + c) :: List.replicate (j + 1) 0 = (p ++ [t % 4294967296 + c]) ++ 0 :: List.replicate j 0 by simp [List.replicate_succ],
    show p.length + 1 = (p ++ [t % 4294967296 + c]).length by simp, z6u, Int.emod_eq_of_lt htq0 (by omega)]
  have hv2 : dv ((p ++ [t % 4294967296 + c]) ++ [t / 4294967296]) = dv (x.take (i + 1)) * e := by
   rw [z1M, z1M, List.length_append, List.length_singleton, hp, z3y x i (by omega), show pB (i + 1) = pB1 (pB i) from rfl]
   rw [z1M, hp] at hv
   exact zaA (pB i) (dv p) (dv (x.take i)) (x.getD i 0) e c t hv ht
  obtain ⟨r, hr1, hr2, hr3, hr4⟩ := ih (i + 1) (p ++ [t % 4294967296 + c]) (t / 4294967296) (by omega) (by rw [List.length_append, hp]; rfl) (z0U.2 ⟨hpo, yp.2 ⟨by omega, fun d hd => by cases hd⟩⟩) htq0 htq hv2
  refine ⟨r, Ev.step (fun k => ?_) hr1, hr2, hr3, hr4⟩
  have hlen : (p ++ c :: List.replicate (j + 1) 0).length = x.length + 1 := by rw [List.length_append, hp, List.length_cons, List.length_replicate]; omega
  simp only [xS.l0, es, e1, hr, hg2, ho, hlen]
  clear hr1 ih hsum hmul hmod es hv hv2 hx he hf hef hm0 hm1 ho htq htq0 hd0 hd1 hd2 hg hpo
  have c1 : (i : Int) < (x.length : Int) := by omega
  have c2 : (0 : Int) ≤ (i : Int) := by omega
  have c3 : (0 : Int) ≤ (n : Int) := by omega
  have c4 : (i : Int) < ((x.length + 1 : Nat) : Int) := by omega
  have c5 : (0 : Int) ≤ ((i + 1 : Nat) : Int) := by omega
  have c6 : ((i + 1 : Nat) : Int) < ((x.length + 1 : Nat) : Int) := by omega
  rw [if_pos c1, if_pos c2, if_pos c1, if_pos c3, if_pos c4, if_pos c5, if_pos c6, Int.toNat_natCast, Int.toNat_natCast, hset]
theorem left_at {x : List Int} {n : Nat} (hx : dOk x) (hn : n < 32) (hb : x.length ≤ 1000000) : ∃ r : List Int, Ev (fun k => xS.f k x (n : Int)) r ∧ dOk r ∧ r.length = x.length + 1 ∧ dv r = dv x * 2 ^ n := by
 obtain ⟨e, f, he, hf, hef, he1, hf2⟩ := z6w hn
 obtain ⟨r, h1, h2, h3, h4⟩ := zbT hx hn he hf hef he1 hf2 hb x.length 0 [] 0 (Nat.zero_add _) rfl (fun d hd => by cases hd) (Int.le_refl 0) (by clear he hf hef; omega) (by rw [List.take_zero]; simp only [List.nil_append, dv, Int.mul_zero, Int.add_zero, Int.zero_mul])
 rw [← he] at h4
 refine ⟨r, Ev.congr (fun k => ?_) h1, h2, h3, h4⟩
 unfold xS.f
 clear he hf hef he1 hf2 h1 h2 h3 h4
 have e1 : wrap64 ((x.length : Int) + 1) = ((x.length + 1 : Nat) : Int) := by rw [d64 (by omega) (by omega)]; omega
 have c1 : (0 : Int) ≤ ((x.length + 1 : Nat) : Int) := by omega
 have c2 : x.length + 1 ≤ 70368744177664 := by omega
 rw [e1, if_pos c1, Int.toNat_natCast, if_pos c2]
 simp only [List.nil_append, List.replicate_succ, Int.cast_ofNat_Int]
theorem or_zero {a : Int} (ha : 0 ≤ a ∧ a < 4294967296) : bits .or .u32 0 a = a := by
 have := (z4U (i := 0) (a := a) (b := 0) ha (by decide) (by omega) (by decide)).2
 rw [this, Int.add_zero]
def xw (e f : Int) : List Int → List Int
 | [] => []
 | [d] => [d / e]
 | d :: d2 :: l => (d / e + d2 % e * f) :: xw e f (d2 :: l)
theorem z4c (e f : Int) : ∀ (l : List Int) (a d : Int), xw e f (l ++ [a] ++ [d]) = (xw e f (l ++ [a])).dropLast ++ [a / e + d % e * f] ++ [d / e]
 | [], a, d => rfl
 | [b], a, d => rfl
 | b :: c :: l, a, d => by
  have ih := z4c e f (c :: l) a d
  show (b / e + c % e * f) :: xw e f (c :: (l ++ [a] ++ [d])) = ((b / e + c % e * f) :: xw e f (c :: (l ++ [a]))).dropLast ++ [a / e + d % e * f] ++ [d / e]
  have e1 : xw e f (c :: (l ++ [a] ++ [d])) = xw e f (c :: l ++ [a] ++ [d]) := rfl
  rw [e1, ih]
  cases h : xw e f (c :: (l ++ [a])) with
  | nil => cases l <;> simp [xw] at h
  | cons x xs =>
   have e2 : xw e f (c :: l ++ [a]) = x :: xs := h
   rw [e2]
   rfl
theorem z4b (e f : Int) : ∀ (l : List Int) (a : Int), ∃ p, xw e f (l ++ [a]) = p ++ [a / e] ∧ p.length = l.length
 | [], a => ⟨[], rfl, rfl⟩
 | [b], a => ⟨[b / e + a % e * f], rfl, rfl⟩
 | b :: c :: l, a => by
  obtain ⟨p, h, hl⟩ := z4b e f (c :: l) a
  refine ⟨(b / e + c % e * f) :: p, ?_, by simp [hl]⟩
  show (b / e + c % e * f) :: xw e f (c :: l ++ [a]) = _
  rw [h]
  rfl
theorem z3o (e f : Int) : ∀ l, (xw e f l).length = l.length
 | [] => rfl
 | [_] => rfl
 | d :: d2 :: l => by simp only [xw, List.length_cons]; rw [z3o e f (d2 :: l)]; rfl
theorem z1N {d e f a : Int} (he : 1 ≤ e) (hf : 2 ≤ f) (hef : e * f = 4294967296) (hd : 0 ≤ d ∧ d < 4294967296) (ha : 0 ≤ a ∧ a < 4294967296) :
 (0 ≤ d / e ∧ d / e < f) ∧ (0 ≤ a % e * f ∧ a % e * f + f ≤ 4294967296) := by
 have h1 : d / e < f := Int.ediv_lt_of_lt_mul (by omega) (by rw [Int.mul_comm]; omega)
 have h2 : 0 ≤ d / e := Int.ediv_nonneg hd.1 (by omega)
 have h3 := Int.emod_nonneg a (show e ≠ 0 by omega)
 have h4 := Int.emod_lt_of_pos a (show 0 < e by omega)
 have h5 := Int.mul_le_mul_of_nonneg_right (show a % e + 1 ≤ e by omega) (show 0 ≤ f by omega)
 have h6 : (a % e + 1) * f = a % e * f + f := by grind
 exact ⟨⟨h2, h1⟩, Int.mul_nonneg h3 (by omega), by omega⟩
theorem z5R {e f : Int} (he : 1 ≤ e) (hf : 2 ≤ f) (hef : e * f = 4294967296) : ∀ l, dOk l → dOk (xw e f l)
 | [], _ => fun d hd => by cases hd
 | [d], h => by
  have h1 := (yp.1 h).1
  have h2 := z1N he hf hef h1 h1
  refine yp.2 ⟨⟨h2.1.1, ?_⟩, fun d hd => by cases hd⟩
  have := h2.2
  omega
 | d :: d2 :: l, h => by
  obtain ⟨h1, h2⟩ := yp.1 h
  have h3 := z1N he hf hef h1 (yp.1 h2).1
  exact yp.2 ⟨by omega, z5R he hf hef (d2 :: l) h2⟩
theorem z5Q {e f : Int} (he : 1 ≤ e) (hf : 2 ≤ f) (hef : e * f = 4294967296) : ∀ l, dOk l → dv (xw e f l) = dv l / e
 | [], _ => by simp [xw, dv]
 | [d], h => by simp [xw, dv]
 | d :: d2 :: l, h => by
  obtain ⟨h1, h2⟩ := yp.1 h
  have ih := z5Q he hf hef (d2 :: l) h2
  show d / e + d2 % e * f + 4294967296 * dv (xw e f (d2 :: l)) = (d + 4294967296 * dv (d2 :: l)) / e
  rw [ih]
  have hm : dv (d2 :: l) % e = d2 % e := by
   have : dv (d2 :: l) = d2 + e * (f * dv l) := by show d2 + 4294967296 * dv l = _; rw [← hef]; grind
   rw [this, Int.add_mul_emod_self_left]
  generalize dv (d2 :: l) = y at *
  have h3 := Int.mul_ediv_add_emod d e
  have h4 := Int.mul_ediv_add_emod y e
  have h5 := Int.emod_nonneg d (show e ≠ 0 by omega)
  have h6 := Int.emod_lt_of_pos d (show 0 < e by omega)
  have h7 : d + 4294967296 * y = d % e + e * (d / e + d2 % e * f + 4294967296 * (y / e)) := by
   rw [← hm]
   generalize d / e = a at *
   generalize d % e = b at *
   generalize y / e = a2 at *
   generalize y % e = b2 at *
   rw [← h3, ← h4, ← hef]
   grind
  rw [h7, Int.add_mul_ediv_left _ _ (by omega), Int.ediv_eq_zero_of_lt h5 h6, Int.zero_add]
theorem zc6 {n : Nat} (hn : n < 32) (d : Int) : shr .u32 d (n : Int) = d / 2 ^ n := by
 unfold shr
 rw [Int.toNat_natCast, Nat.min_eq_left (by show n ≤ 32; omega)]
theorem zc5 {n : Nat} {e f d : Int} (hn : n < 32) (he : (2 : Int) ^ n = e) (hef : e * f = 4294967296) (he1 : 1 ≤ e) (hf2 : 2 ≤ f) (hd : 0 ≤ d ∧ d < 4294967296) :
 (shr .u64 (IntKind.u64.wrap (IntKind.u64.wrap d * 4294967296)) (n : Int)) % 4294967296 = d % e * f := by
 unfold shr
 rw [Int.toNat_natCast, Nat.min_eq_left (by show n ≤ 64; omega), he]
 clear he
 rw [z0P (n := d) hd.1 (by omega), z0P (by omega) (by omega)]
 have h1 : d * 4294967296 / e = d * f := by
  have : d * 4294967296 = e * (d * f) := by rw [← hef]; grind
  rw [this, Int.mul_ediv_cancel_left _ (by omega)]
 rw [h1, ← hef, Int.mul_comm d f, Int.mul_comm e f, Int.mul_emod_mul_of_pos _ _ (by omega), Int.mul_comm]
theorem z2h {x : List Int} {i : Nat} (h : i < x.length) : x.take (i + 1) = x.take i ++ [x.getD i 0] := by
 rw [List.getD_eq_getElem?_getD, List.getElem?_eq_getElem h, Option.getD_some, List.take_succ_eq_append_getElem h]
theorem z2L (p : List Int) (c v : Int) (z : List Int) {i : Nat} (h : p.length = i) : (p ++ c :: z).set i v = p ++ v :: z := by rw [← h]; exact z6u p c v z
theorem get_at (p : List Int) (c : Int) (z : List Int) {i : Nat} (h : p.length = i) : (p ++ c :: z).getD i 0 = c := by rw [← h]; exact z8y p c z
theorem zaY {x : List Int} {n : Nat} {e f : Int} (hx : dOk x) (hn : n < 32) (HE : Aside0 ((2 : Int) ^ n = e)) (HF : Aside0 ((2 : Int) ^ (32 - n) = f)) (hef : e * f = 4294967296) (he1 : 1 ≤ e) (hf2 : 2 ≤ f) (hb : x.length ≤ 1000000)
 {r : List Int} (hr : Ev (fun k => yA.f k (xw e f x)) r) :
 ∀ (j i : Nat), i + j = x.length → Ev (fun k => ya.l0 k (n : Int) (xw e f (x.take i) ++ List.replicate j 0) x (x.length : Int) (i : Int)) r := by
 intro j
 induction j with
 | zero =>
  intro i hij
  refine Ev.step (f := fun k => (yA.f k (xw e f x)).bind fun t => some t) (fun k => ?_) (Ev.bind hr (Ev.now _))
  have c1 : ¬ (i : Int) < (x.length : Int) := by omega
  simp only [ya.l0]
  rw [if_neg c1, List.replicate_zero, List.append_nil, List.take_of_length_le (by omega)]
 | succ j ih =>
  intro i hij
  have hi : i < x.length := by omega
  have hg := zX hx i
  have e1 : wrap64 ((i : Int) + 1) = ((i + 1 : Nat) : Int) := by rw [d64 (by omega) (by omega)]; omega
  have hpl : (xw e f (x.take i)).length = i := by rw [z3o, List.length_take, Nat.min_eq_left (by omega)]
  have hlen : (xw e f (x.take i) ++ List.replicate (j + 1) 0).length = x.length := by rw [List.length_append, hpl, List.length_replicate]; omega
  have hd := z1N he1 hf2 hef hg hg
  have s1 : shr .u32 (rd x (i : Int)) (n : Int) = x.getD i 0 / e := by rw [xL, zc6 hn, HE.out]
  have s2 := zc5 hn HE.out hef he1 hf2 hg
  rw [← xL x i] at s2
  have g0 : rd (xw e f (x.take i) ++ List.replicate (j + 1) 0) (i : Int) = 0 := by rw [xL, List.replicate_succ]; exact get_at _ _ _ hpl
  have o0 : bits .or .u32 0 (x.getD i 0 / e) = x.getD i 0 / e := or_zero ⟨hd.1.1, by have := hd.2.1; have := hd.2.2; omega⟩
  have hset : (xw e f (x.take i) ++ List.replicate (j + 1) 0).set i (x.getD i 0 / e) = xw e f (x.take i) ++ (x.getD i 0 / e) :: List.replicate j 0 := by rw [List.replicate_succ]; exact z2L _ _ _ _ hpl
  have c1 : (i : Int) < (x.length : Int) := by omega
  have c2 : (0 : Int) ≤ (i : Int) := by omega
  have c3 : (0 : Int) ≤ (n : Int) := by omega
  have hnext := ih (i + 1) (by omega)
  cases i with
  | zero =>
   refine Ev.step (fun k => ?_) hnext
   have c4 : ¬ ((0 : Nat) : Int) > 0 := by omega
   simp only [ya.l0, hlen]
   rw [if_pos c1, if_pos c2, if_pos c1, if_pos c1, if_pos c3, Option.bind_some, if_neg c4, s1, g0, o0, Int.toNat_natCast, hset, e1]
   have e5 : xw e f (x.take 0) ++ x.getD 0 0 / e :: List.replicate j 0 = xw e f (x.take (0 + 1)) ++ List.replicate j 0 := by
    rw [z2h hi]
    rfl
   rw [e5]
  | succ m =>
   refine Ev.step (fun k => ?_) hnext
   have c4 : ((m + 1 : Nat) : Int) > 0 := by omega
   have e2 : wrap64 (((m + 1 : Nat) : Int) - 1) = (m : Int) := by rw [d64 (by omega) (by omega)]; omega
   have c5 : (0 : Int) ≤ (m : Int) := by omega
   have c6 : (m : Int) < (x.length : Int) := by omega
   obtain ⟨p, hp, hpm⟩ := z4b e f (x.take m) (x.getD m 0)
   have hgm := zX hx m
   have hdm := z1N he1 hf2 hef hgm hg
   have htm : x.take (m + 1) = x.take m ++ [x.getD m 0] := z2h (by omega)
   have hpm2 : p.length = m := by rw [hpm, List.length_take, Nat.min_eq_left (by omega)]
   rw [htm, hp] at hset hlen g0
   have e6 : (p ++ [x.getD m 0 / e] ++ x.getD (m + 1) 0 / e :: List.replicate j 0) = p ++ (x.getD m 0 / e) :: (x.getD (m + 1) 0 / e :: List.replicate j 0) := by simp
   have g1 : rd (p ++ [x.getD m 0 / e] ++ x.getD (m + 1) 0 / e :: List.replicate j 0) (m : Int) = x.getD m 0 / e := by rw [xL, e6]; exact get_at _ _ _ hpm2
   have o1 : bits .or .u32 (x.getD m 0 / e) (x.getD (m + 1) 0 % e * f) = x.getD (m + 1) 0 % e * f + x.getD m 0 / e := by
    refine (z4U (i := 32 - n) ⟨hdm.2.1, ?_⟩ ⟨hdm.1.1, ?_⟩ ?_ ?_).2
    ·have := hdm.2.2; omega
    ·have := hdm.1.2; have := hdm.2.1; have := hdm.2.2; omega
    ·rw [HF.out]; exact Int.mul_emod_left _ _
    ·rw [HF.out]; exact hdm.1.2
   simp only [ya.l0]
   rw [htm, hp]
   have hlen2 : (p ++ [x.getD m 0 / e] ++ x.getD (m + 1) 0 / e :: List.replicate j 0).length = x.length := by rw [← hset, List.length_set]; exact hlen
   rw [if_pos c1, if_pos c2, if_pos c1, hlen, if_pos c1, if_pos c3, Option.bind_some, if_pos c4, e2, if_pos c5, if_pos c6, s1, g0, o0, Int.toNat_natCast, hset, g1, s2, ← xL x (m + 1)]
   rw [xL, o1, Int.toNat_natCast, e6, z2L _ _ _ _ hpm2, e1]
   have e5 : p ++ (x.getD (m + 1) 0 % e * f + x.getD m 0 / e) :: (x.getD (m + 1) 0 / e :: List.replicate j 0) = xw e f (x.take (m + 1 + 1)) ++ List.replicate j 0 := by
    rw [z2h hi, htm, z4c, hp, List.dropLast_concat, Int.add_comm]
    simp
   rw [e5]
theorem zaX {x : List Int} {n : Nat} (hx : dOk x) (hn : n < 32) (hb : x.length ≤ 1000000) : ∃ r : List Int, Ev (fun k => ya.f k x (n : Int)) r ∧ yG r ∧ dv r = dv x / 2 ^ n := by
 obtain ⟨e, f, he, hf, hef, he1, hf2⟩ := z6w hn
 obtain ⟨r, h1, h2, h3, h4⟩ := z2Z x.length (xw e f x) (z3o _ _ _) (z5R he1 hf2 hef x hx) hb
 have h5 := zaY hx hn ⟨he⟩ ⟨hf⟩ hef he1 hf2 hb h1 x.length 0 (Nat.zero_add _)
 rw [z5Q he1 hf2 hef x hx, ← he] at h3
 refine ⟨r, Ev.congr (fun k => ?_) h5, h2, h3⟩
 unfold ya.f
 clear he hf hef he1 hf2 h1 h2 h3 h4 h5
 have c1 : (0 : Int) ≤ ((x.length : Nat) : Int) := by omega
 have c2 : x.length ≤ 70368744177664 := by omega
 rw [if_pos c1, Int.toNat_natCast, if_pos c2]
 rfl
def len8 : ByteArray := ⟨#[0, 1, 2, 2, 3, 3, 3, 3, 4, 4, 4, 4, 4, 4, 4, 4, 5, 5, 5, 5, 5, 5, 5, 5, 5, 5, 5, 5, 5, 5, 5, 5, 6, 6, 6, 6, 6, 6, 6, 6, 6, 6, 6, 6, 6, 6, 6, 6, 6, 6, 6, 6, 6, 6, 6, 6, 6, 6, 6, 6, 6, 6, 6, 6, 7, 7, 7, 7, 7, 7, 7, 7, 7, 7, 7, 7, 7, 7, 7, 7, 7, 7, 7, 7, 7, 7, 7, 7, 7, 7, 7, 7, 7, 7, 7, 7, 7, 7, 7, 7, 7, 7, 7, 7, 7, 7, 7, 7, 7, 7, 7, 7, 7, 7, 7, 7, 7, 7, 7, 7, 7, 7, 7, 7, 7, 7, 7, 7, 8, 8, 8, 8, 8, 8, 8, 8, 8, 8, 8, 8, 8, 8, 8, 8, 8, 8, 8, 8, 8, 8, 8, 8, 8, 8, 8, 8, 8, 8, 8, 8, 8, 8, 8, 8, 8, 8, 8, 8, 8, 8, 8, 8, 8, 8, 8, 8, 8, 8, 8, 8, 8, 8, 8, 8, 8, 8, 8, 8, 8, 8, 8, 8, 8, 8, 8, 8, 8, 8, 8, 8, 8, 8, 8, 8, 8, 8, 8, 8, 8, 8, 8, 8, 8, 8, 8, 8, 8, 8, 8, 8, 8, 8, 8, 8, 8, 8, 8, 8, 8, 8, 8, 8, 8, 8, 8, 8, 8, 8, 8, 8, 8, 8, 8, 8, 8, 8, 8, 8, 8, 8, 8, 8, 8, 8, 8, 8]⟩
def z65 (i v : Int) : Prop := (v = 1 ∧ 1 ≤ i ∧ i < 2) ∨ (v = 2 ∧ 2 ≤ i ∧ i < 4) ∨ (v = 3 ∧ 4 ≤ i ∧ i < 8) ∨ (v = 4 ∧ 8 ≤ i ∧ i < 16) ∨ (v = 5 ∧ 16 ≤ i ∧ i < 32) ∨ (v = 6 ∧ 32 ≤ i ∧ i < 64) ∨ (v = 7 ∧ 64 ≤ i ∧ i < 128) ∨ (v = 8 ∧ 128 ≤ i ∧ i < 256)
def zcm (i : Int) : Bool := (bt len8 i == 1 && decide (1 ≤ i) && decide (i < 2)) || (bt len8 i == 2 && decide (2 ≤ i) && decide (i < 4)) || (bt len8 i == 3 && decide (4 ≤ i) && decide (i < 8)) || (bt len8 i == 4 && decide (8 ≤ i) && decide (i < 16)) || (bt len8 i == 5 && decide (16 ≤ i) && decide (i < 32)) || (bt len8 i == 6 && decide (32 ≤ i) && decide (i < 64)) || (bt len8 i == 7 && decide (64 ≤ i) && decide (i < 128)) || (bt len8 i == 8 && decide (128 ≤ i) && decide (i < 256))
theorem zaC : (List.range 256).all (fun k => k == 0 || zcm (k : Int)) = true := by kernel_rfl
theorem z4q {i : Int} (h0 : 0 < i) (h1 : i < 256) : z65 i (bt len8 i) := by
 obtain ⟨k, rfl⟩ := Int.eq_ofNat_of_zero_le (Int.le_of_lt h0)
 have h := List.all_eq_true.1 zaC k (List.mem_range.2 (by omega))
 rw [Bool.or_eq_true] at h
 rcases h with h | h
 ·have : k = 0 := by simpa using h
  omega
 ·simp only [zcm, Bool.or_eq_true, Bool.and_eq_true, beq_iff_eq, decide_eq_true_eq] at h
  unfold z65
  omega
theorem zcl {a : Int} (h0 : 0 < a) (h1 : a < 4294967296) : ∃ s t v : Int, xI.f a = some (s + v) ∧ z65 t v ∧ ((s = 24 ∧ t = a / 16777216) ∨ (s = 16 ∧ t = a / 65536 ∧ t < 256) ∨ (s = 8 ∧ t = a / 256 ∧ t < 256) ∨ (s = 0 ∧ t = a ∧ t < 256)) := by
 by_cases c1 : 65536 ≤ a; rotate_left
 ·by_cases c2 : 256 ≤ a
  ·have ht : a / 256 % 256 = a / 256 := by omega
   have hv := z4q (i := a / 256) (by omega) (by omega)
   refine ⟨8, a / 256, bt len8 (a / 256), ?_, hv, .inr (.inr (.inl ⟨rfl, rfl, by omega⟩))⟩
   unfold xI.f
   rw [if_neg c1, if_pos c2, if_pos (by omega), if_pos (by omega), ht]
   unfold z65 at hv
   show some (wrap64 ((0 + 8) + wrap64 (bt len8 (a / 256)))) = _
   rw [d64 (n := bt len8 (a / 256)) (by omega) (by omega), d64 (by omega) (by omega)]
   rfl
  ·have ht : a % 256 = a := by omega
   have hv := z4q (i := a) (by omega) (by omega)
   refine ⟨0, a, bt len8 a, ?_, hv, .inr (.inr (.inr ⟨rfl, rfl, by omega⟩))⟩
   unfold xI.f
   rw [if_neg c1, if_neg c2, if_pos (by omega), if_pos (by omega), ht]
   unfold z65 at hv
   show some (wrap64 (0 + wrap64 (bt len8 a))) = _
   rw [d64 (n := bt len8 a) (by omega) (by omega), d64 (by omega) (by omega)]
 by_cases c2 : 256 ≤ a / 65536
 ·have ht : a / 65536 / 256 % 256 = a / 16777216 := by omega
  have hv := z4q (i := a / 16777216) (by omega) (by omega)
  refine ⟨24, a / 16777216, bt len8 (a / 16777216), ?_, hv, .inl ⟨rfl, rfl⟩⟩
  unfold xI.f
  rw [if_pos c1, if_pos c2, if_pos (by omega), if_pos (by omega), ht]
  unfold z65 at hv
  show some (wrap64 ((16 + 8) + wrap64 (bt len8 (a / 16777216)))) = _
  rw [d64 (n := bt len8 (a / 16777216)) (by omega) (by omega), d64 (by omega) (by omega)]
  rfl
 ·have ht : a / 65536 % 256 = a / 65536 := by omega
  have hv := z4q (i := a / 65536) (by omega) (by omega)
  refine ⟨16, a / 65536, bt len8 (a / 65536), ?_, hv, .inr (.inl ⟨rfl, rfl, by omega⟩)⟩
  unfold xI.f
  rw [if_pos c1, if_neg c2, if_pos (by omega), if_pos (by omega), ht]
  unfold z65 at hv
  show some (wrap64 (16 + wrap64 (bt len8 (a / 65536)))) = _
  rw [d64 (n := bt len8 (a / 65536)) (by omega) (by omega), d64 (by omega) (by omega)]
theorem zdI {a : Int} (h0 : 0 < a) (h1 : a < 4294967296) : ∃ n : Nat, n < 32 ∧ xn.f a = some (n : Int) ∧ 2147483648 ≤ a * 2 ^ n ∧ a * 2 ^ n < 4294967296 := by
 obtain ⟨s, t, v, hf, hv, hs⟩ := zcl h0 h1
 have key : ∀ n : Nat, n < 32 → s + v = 32 - (n : Int) → 2147483648 ≤ a * 2 ^ n → a * 2 ^ n < 4294967296 → ∃ n : Nat, n < 32 ∧ xn.f a = some (n : Int) ∧ 2147483648 ≤ a * 2 ^ n ∧ a * 2 ^ n < 4294967296 := by
  intro n hn he h2 h3
  refine ⟨n, hn, ?_, h2, h3⟩
  clear h2 h3
  unfold xn.f
  rw [hf, Option.bind_some, he, d64 (by omega) (by omega)]
  congr 1
  omega
 unfold z65 at hv
 clear hf
 by_cases g0 : s + v = 32 - 0
 ·exact key 0 (by decide) g0 (by omega) (by omega)
 by_cases g1 : s + v = 32 - 1
 ·exact key 1 (by decide) g1 (by omega) (by omega)
 by_cases g2 : s + v = 32 - 2
 ·exact key 2 (by decide) g2 (by omega) (by omega)
 by_cases g3 : s + v = 32 - 3
 ·exact key 3 (by decide) g3 (by omega) (by omega)
 by_cases g4 : s + v = 32 - 4
 ·exact key 4 (by decide) g4 (by omega) (by omega)
 by_cases g5 : s + v = 32 - 5
 ·exact key 5 (by decide) g5 (by omega) (by omega)
 by_cases g6 : s + v = 32 - 6
 ·exact key 6 (by decide) g6 (by omega) (by omega)
 by_cases g7 : s + v = 32 - 7
 ·exact key 7 (by decide) g7 (by omega) (by omega)
 by_cases g8 : s + v = 32 - 8
 ·exact key 8 (by decide) g8 (by omega) (by omega)
 by_cases g9 : s + v = 32 - 9
 ·exact key 9 (by decide) g9 (by omega) (by omega)
 by_cases g10 : s + v = 32 - 10
 ·exact key 10 (by decide) g10 (by omega) (by omega)
 by_cases g11 : s + v = 32 - 11
 ·exact key 11 (by decide) g11 (by omega) (by omega)
 by_cases g12 : s + v = 32 - 12
 ·exact key 12 (by decide) g12 (by omega) (by omega)
 by_cases g13 : s + v = 32 - 13
 ·exact key 13 (by decide) g13 (by omega) (by omega)
 by_cases g14 : s + v = 32 - 14
 ·exact key 14 (by decide) g14 (by omega) (by omega)
 by_cases g15 : s + v = 32 - 15
 ·exact key 15 (by decide) g15 (by omega) (by omega)
 by_cases g16 : s + v = 32 - 16
 ·exact key 16 (by decide) g16 (by omega) (by omega)
 by_cases g17 : s + v = 32 - 17
 ·exact key 17 (by decide) g17 (by omega) (by omega)
 by_cases g18 : s + v = 32 - 18
 ·exact key 18 (by decide) g18 (by omega) (by omega)
 by_cases g19 : s + v = 32 - 19
 ·exact key 19 (by decide) g19 (by omega) (by omega)
 by_cases g20 : s + v = 32 - 20
 ·exact key 20 (by decide) g20 (by omega) (by omega)
 by_cases g21 : s + v = 32 - 21
 ·exact key 21 (by decide) g21 (by omega) (by omega)
 by_cases g22 : s + v = 32 - 22
 ·exact key 22 (by decide) g22 (by omega) (by omega)
 by_cases g23 : s + v = 32 - 23
 ·exact key 23 (by decide) g23 (by omega) (by omega)
 by_cases g24 : s + v = 32 - 24
 ·exact key 24 (by decide) g24 (by omega) (by omega)
 by_cases g25 : s + v = 32 - 25
 ·exact key 25 (by decide) g25 (by omega) (by omega)
 by_cases g26 : s + v = 32 - 26
 ·exact key 26 (by decide) g26 (by omega) (by omega)
 by_cases g27 : s + v = 32 - 27
 ·exact key 27 (by decide) g27 (by omega) (by omega)
 by_cases g28 : s + v = 32 - 28
 ·exact key 28 (by decide) g28 (by omega) (by omega)
 by_cases g29 : s + v = 32 - 29
 ·exact key 29 (by decide) g29 (by omega) (by omega)
 by_cases g30 : s + v = 32 - 30
 ·exact key 30 (by decide) g30 (by omega) (by omega)
 by_cases g31 : s + v = 32 - 31
 ·exact key 31 (by decide) g31 (by omega) (by omega)
 omega
theorem zaB {a : Int} (h0 : 0 < a) (h1 : a < 4294967296) : ∃ m : Int, xI.f a = some m ∧ 1 ≤ m ∧ m ≤ 32 := by
 obtain ⟨s, t, v, hf, hv, hs⟩ := zcl h0 h1
 unfold z65 at hv
 exact ⟨s + v, hf, by omega, by omega⟩
section
section
attribute [local go_sem] yd zV
theorem z8k (l : List Int) (hl : dOk l) (j : Nat) : z3l.f l (j : Int) = some (l.getD j 0) := by
 unfold z3l.f
 by_cases h : (j : Int) < (l.length : Int)
 ·have c2 : (0 : Int) ≤ (j : Int) := by omega
  have := zX hl j
  rw [if_pos h, if_pos c2, xL, z0P this.1 (by omega)]
 ·rw [if_neg h, List.getD_eq_getElem?_getD, List.getElem?_eq_none (by omega)]
  rfl
abbrev z19 (W : World) (base g n cap : Nat) (xs : List Int) : Prop := Kd.R (Kd.int .u32) 145 W base (fun _ => True) (.slice (some ⟨g, 0, none⟩) n cap) xs
theorem zbt {t : Int} (h0 : 0 ≤ t) (h1 : t < 18446744073709551616) : bits .and .u64 t 4294967295 = t % 4294967296 :=
 bits_mask .u64 64 (by decide) (fun n h0 h1 => by rw [zbc]; omega) 32 (by decide) t h0 (by omega)
theorem zb7 {x t b : Int} (hx : 0 ≤ x ∧ x < 4294967296) (hb : b = 0 ∨ b = 1) :
 IntKind.u64.wrap (IntKind.u64.wrap (x - t % 4294967296) - b) % 4294967296 = (x - t % 4294967296 - b) % 4294967296 ∧
 IntKind.u64.wrap (IntKind.u64.wrap (x - t % 4294967296) - b) / 9223372036854775808 = if x - t % 4294967296 - b < 0 then 1 else 0 := by
 rw [zbc, zbc]
 constructor
 ·omega
 ·split <;> omega
theorem z5S {xs : List Int} {i n : Nat} (h : i + n ≤ xs.length) (w : List Int) : z0u xs i n w = xs.take i ++ (w ++ xs.drop (i + n)) := rfl
theorem z3Y {U : List Int} {k : Nat} (h : U.length = k + 1) : ∃ x U', U = x :: U' ∧ U'.length = k := by
 cases U with
 | nil => cases h
 | cons x U' => exact ⟨x, U', rfl, by simpa using h⟩
theorem z5x (v : List Int) (j : Nat) : (v.drop j).headD 0 = v.getD j 0 ∧ (v.drop j).tail = v.drop (j + 1) := by
 refine ⟨?_, by rw [List.tail_drop]⟩
 rw [List.headD_eq_head?_getD, List.head?_drop, List.getD_eq_getElem?_getD]
theorem z8b (g i n cap capx c1 : Nat) (xs v : List Int) (q : Int) (A1 : Option Addr) (w0 w : World) (hB : Below w0.heap.size w0 w) (hR : z19 w w0.heap.size g xs.length capx xs) (hi : i + n ≤ xs.length) (hx : dOk xs) (hv : dOk v)
 (hq : 0 ≤ q ∧ q < 4294967296) (hn : n ≤ 1000000) (hin : i ≤ 1000000) (hC : ∀ W, zu w W g none → Kd.C (Kd.int .u32) W A1 v.length v) (hc1 : v.length ≤ c1) :
 Calls Tryz.prog 248 #[.slice (some ⟨g, i, none⟩) n cap, .slice A1 v.length c1, .int .u64 q] w fun e w' =>
  e = .returned (.bool ((tkL q ((xs.drop i).take n) v 0 0).2.2 == 0)) ∧ z19 w' w0.heap.size g xs.length capx (z0u xs i n (tkL q ((xs.drop i).take n) v 0 0).1) ∧ Below w0.heap.size w0 w' ∧ zu w w' g none := by
 have HC := aS hC
 have HB := aS hB
 have HR := aS hR
 clear hC hB hR
 have hs : xs = xs.take i ++ ((xs.drop i).take n ++ xs.drop (i + n)) := by rw [← List.drop_drop, List.take_append_drop, List.take_append_drop]
 have hul : ((xs.drop i).take n).length = n := by rw [List.length_take, List.length_drop]; omega
 have huo : dOk ((xs.drop i).take n) := xc (z11 hx i) n
 rw [z5S hi]
 generalize hxs : xs.length = N at *
 have hpl : (xs.take i).length = i := by rw [List.length_take]; omega
 generalize xs.take i = P at *
 generalize (xs.drop i).take n = U at *
 generalize xs.drop (i + n) = Z at *
 subst hs
 have HQ := aS hq
 have HV := aS hv
 have HT := aS (show 0 ≤ n ∧ n ≤ 1000000 ∧ i ≤ 1000000 ∧ i + n ≤ N from ⟨Nat.zero_le _, hn, hin, hi⟩)
 have HC1 := aS hc1
 clear hq hx hn hin hi hv hc1
 go_enter Tryz.func248, Tryz.ntmps248
 go_wp2
 go_loopg [7, 8, 13] (n + 1) (fun kq v7 v8 v13 w' => ∃ (c b : Int) (j : Nat) (P2 U2 : List Int), v7 = .int .u64 c ∧ v8 = .int .u64 b ∧ v13 = .int .i64 (j : Int) ∧ Aside0 (kq + j = n + 1 ∧ U2.length = n - j ∧ P2.length = i + j ∧ j ≤ n ∧ 0 ≤ c ∧ c < 4294967296 ∧ (b = 0 ∨ b = 1) ∧ dOk U2 ∧ P2.length + (U2.length + Z.length) = N) ∧
  Aside0 ((tkL q U2 (v.drop j) c b).2.2 = (tkL q U v 0 0).2.2 ∧ P2 ++ ((tkL q U2 (v.drop j) c b).1 ++ Z) = P ++ ((tkL q U v 0 0).1 ++ Z)) ∧ Aside0 (z19 w' w0.heap.size g N capx (P2 ++ (U2 ++ Z))) ∧ Aside0 (zu w w' g none) ∧ Aside0 (Below w0.heap.size w0 w'))
 case atStart => exact ⟨0, 0, 0, P, U, rfl, rfl, rfl, ⟨by omega, by omega, by omega, by omega, by decide, by decide, .inl rfl, huo, by rw [← hxs, List.length_append, List.length_append]⟩, ⟨rfl, rfl⟩, ⟨HR.out⟩, ⟨zu.refl _ _ _⟩, HB⟩
 case round =>
  clear hul huo hxs hpl
  obtain ⟨c, b, j, P2, U2, rfl, rfl, rfl, HA, HE, HR, HK, HB⟩ := hrel
  by_cases hj : j < n; rotate_left
  ·have hU : U2 = [] := List.length_eq_zero_iff.1 (by have := HA.out; omega)
   subst hU
   have hb2 : b = (tkL q U v 0 0).2.2 := HE.out.1
   have hj1 : decide ((j : Int) < (n : Int)) = false := dF (by omega)
   have hj2 : decide (j < n) = false := dF (by omega)
   clear hj
   go_wp2
   go_ret
   have h2 := HE.out.2
   rw [hb2]
   exact ⟨rfl, by rw [← h2]; exact HR.out, HB.out, HK.out⟩
  obtain ⟨x, U3, rfl, hU3⟩ := z3Y (U := U2) (k := n - j - 1) (by have := HA.out; omega)
  have hA := HA.out
  have hx := (yp.1 hA.2.2.2.2.2.2.2.1).1
  have hvj := zX HV.out j
  have hat := z8k v HV.out j
  have hdh := z5x v j
  generalize v.getD j 0 = y at hvj hat hdh
  have hm0 : 0 ≤ q * y := Int.mul_nonneg HQ.out.1 hvj.1
  have hm1 : q * y ≤ 4294967295 * 4294967295 := Int.mul_le_mul (by have := HQ.out; omega) (by omega) hvj.1 (by decide)
  have e1 : IntKind.u64.wrap (q * y) = q * y := z0P hm0 (by omega)
  have e2 : IntKind.u64.wrap (c + q * y) = c + q * y := z0P (by omega) (by omega)
  have e3 := zbt (t := c + q * y) (by omega) (by omega)
  have e4 : IntKind.u64.wrap x = x := z0P hx.1 (by omega)
  have E5 := aS (zb7 (x := x) (t := c + q * y) (b := b) hx hA.2.2.2.2.2.2.1)
  have HAT := aS hat
  have HDH := aS hdh
  have hrow := Kd.yx (0 : Int) HR.out ((i + j : Nat) : Int) (by omega) (by have := HT.out; omega)
  rw [Int.toNat_natCast] at hrow
  have hget : z1X (0 : Int) (P2 ++ (x :: U3 ++ Z)) ((i + j : Nat) : Int) = x := get_at P2 x (U3 ++ Z) hA.2.2.1
  rw [hget] at hrow
  obtain ⟨hc, hf⟩ := hrow
  have hc : wr.cell? ⟨g, i + j, none⟩ = some (.int .u32 x) := hc
  have hj1 : decide ((j : Int) < (n : Int)) = true := dT (by omega)
  have hj2 : decide (j < n) = true := dT (by omega)
  have hj3 : (j < n) = True := eq_true hj
  have e6 : wrap64 ((j : Int) + 1) = ((j + 1 : Nat) : Int) := by rw [d64 (by have := HT.out; omega) (by have := HT.out; omega)]; omega
  have HX := aS hx
  have HM := aS (And.intro hm0 hm1)
  have HJ := aS hj
  clear hm0 hm1 hvj hx hA hget hj hat hdh
  go_wp2_with (go_at_call 253; (with_reducible refine (z3l.calls A1 c1 v (j : Int) y _ (HC.out _ HK.out) HC1.out HAT.out).mono ?_); rintro e_ w1 ⟨rfl, ⟨nd, rfl⟩⟩)
  cases gk with
  | zero => exact absurd HA.out.1 (by have := HJ.out; omega)
  | succ k3 =>
   go_roundg k3
   case measure => omega
   case rel =>
    have hA := HA.out
    have hmm := HM.out
    have hE := HE.out
    simp only [tkL, HDH.out.1, HDH.out.2, ← E5.out.2] at hE
    refine ⟨_, _, j + 1, P2 ++ [(x - (c + q * y) % 4294967296 - b) % 4294967296], U3, rfl, rfl, by rw [e6], ⟨?_⟩, ⟨hE.1, ?_⟩, ⟨?_⟩, ?_, ?_⟩
    ·have hok := yp.1 hA.2.2.2.2.2.2.2.1
     have hl := hA.2.2.2.2.2.2.2.2
     have hul := hA.2.1
     simp only [List.length_append, List.length_cons, List.length_nil] at hl hul ⊢
     have e5 := E5.out.2
     refine ⟨by omega, by omega, by omega, by have := HJ.out; omega, by omega, by omega, ?_, hok.2, by omega⟩
     rw [e5]
     split <;> simp
    ·rw [← hE.2]
     simp
    ·have hp := Kd.z0q HR.out ((i + j : Nat) : Int) ((x - (c + q * y) % 4294967296 - b) % 4294967296)
     rw [Int.toNat_natCast] at hp
     have hs2 : (P2 ++ (x :: U3 ++ Z)).set (i + j) ((x - (c + q * y) % 4294967296 - b) % 4294967296) = P2 ++ [(x - (c + q * y) % 4294967296 - b) % 4294967296] ++ (U3 ++ Z) := by
      rw [show x :: U3 ++ Z = x :: (U3 ++ Z) from rfl, z2L _ _ _ _ hA.2.2.1]
      simp
     rw [hs2] at hp
     rw [E5.out.1]
     exact Kd.yK hp.1 _
    ·exact ⟨zu.zb2 (z1g HK.out _) _ _⟩
    ·exact ⟨zG (zd HB.out _) (Kd.yf HR.out g rfl)⟩
theorem z7z (g i n cap capx c1 : Nat) (xs v : List Int) (A1 : Option Addr) (w0 w : World) (hB : Below w0.heap.size w0 w) (hR : z19 w w0.heap.size g xs.length capx xs) (hi : i + n ≤ xs.length) (hx : dOk xs) (hv : dOk v)
 (hn : n ≤ 1000000) (hin : i ≤ 1000000) (hC : ∀ W, zu w W g none → Kd.C (Kd.int .u32) W A1 v.length v) (hc1 : v.length ≤ c1) :
 Calls Tryz.prog 249 #[.slice (some ⟨g, i, none⟩) n cap, .slice A1 v.length c1] w fun e w' =>
  e = .returned (.tuple #[]) ∧ z19 w' w0.heap.size g xs.length capx (z0u xs i n (gvL ((xs.drop i).take n) v 0).1) ∧ Below w0.heap.size w0 w' ∧ zu w w' g none := by
 have HC := aS hC
 have HB := aS hB
 have HR := aS hR
 clear hC hB hR
 have hs : xs = xs.take i ++ ((xs.drop i).take n ++ xs.drop (i + n)) := by rw [← List.drop_drop, List.take_append_drop, List.take_append_drop]
 have hul : ((xs.drop i).take n).length = n := by rw [List.length_take, List.length_drop]; omega
 have huo : dOk ((xs.drop i).take n) := xc (z11 hx i) n
 rw [z5S hi]
 generalize hxs : xs.length = N at *
 have hpl : (xs.take i).length = i := by rw [List.length_take]; omega
 generalize xs.take i = P at *
 generalize (xs.drop i).take n = U at *
 generalize xs.drop (i + n) = Z at *
 subst hs
 have HV := aS hv
 have HT := aS (show 0 ≤ n ∧ n ≤ 1000000 ∧ i ≤ 1000000 ∧ i + n ≤ N from ⟨Nat.zero_le _, hn, hin, hi⟩)
 have HC1 := aS hc1
 clear hx hn hin hi hv hc1
 go_enter Tryz.func249, Tryz.ntmps249
 go_wp2
 go_loopg [4, 8] (n + 1) (fun kq v4 v8 w' => ∃ (c : Int) (j : Nat) (P2 U2 : List Int), v4 = .int .u64 c ∧ v8 = .int .i64 (j : Int) ∧ Aside0 (kq + j = n + 1 ∧ U2.length = n - j ∧ P2.length = i + j ∧ j ≤ n ∧ 0 ≤ c ∧ c ≤ 1 ∧ dOk U2 ∧ P2.length + (U2.length + Z.length) = N) ∧
  Aside0 (P2 ++ ((gvL U2 (v.drop j) c).1 ++ Z) = P ++ ((gvL U v 0).1 ++ Z)) ∧ Aside0 (z19 w' w0.heap.size g N capx (P2 ++ (U2 ++ Z))) ∧ Aside0 (zu w w' g none) ∧ Aside0 (Below w0.heap.size w0 w'))
 case atStart => exact ⟨0, 0, P, U, rfl, rfl, ⟨by omega, by omega, by omega, by omega, by decide, by decide, huo, by rw [← hxs, List.length_append, List.length_append]⟩, ⟨rfl⟩, ⟨HR.out⟩, ⟨zu.refl _ _ _⟩, HB⟩
 case round =>
  clear hul huo hxs hpl
  obtain ⟨c, j, P2, U2, rfl, rfl, HA, HE, HR, HK, HB⟩ := hrel
  by_cases hj : j < n; rotate_left
  ·have hU : U2 = [] := List.length_eq_zero_iff.1 (by have := HA.out; omega)
   subst hU
   have hj1 : decide ((j : Int) < (n : Int)) = false := dF (by omega)
   have hj2 : decide (j < n) = false := dF (by omega)
   clear hj
   go_wp2
   have h2 := HE.out
   first | go_end0 | ((try simp only [Exit.inBlock, Exit.then]); refine bodyPost_ret (results_none rfl _ _ _) rfl ?_)
   exact ⟨rfl, by rw [← h2]; exact HR.out, HB.out, HK.out⟩
  obtain ⟨x, U3, rfl, hU3⟩ := z3Y (U := U2) (k := n - j - 1) (by have := HA.out; omega)
  have hA := HA.out
  have hx := (yp.1 hA.2.2.2.2.2.2.1).1
  have hvj := zX HV.out j
  have hat := z8k v HV.out j
  have hdh := z5x v j
  generalize v.getD j 0 = y at hvj hat hdh
  have e1 : IntKind.u64.wrap (x + y) = x + y := z0P (by omega) (by omega)
  have e2 : IntKind.u64.wrap (c + (x + y)) = c + (x + y) := z0P (by omega) (by omega)
  have e4 : IntKind.u64.wrap x = x := z0P hx.1 (by omega)
  have HAT := aS hat
  have HDH := aS hdh
  have hrow := Kd.yx (0 : Int) HR.out ((i + j : Nat) : Int) (by omega) (by have := HT.out; omega)
  rw [Int.toNat_natCast] at hrow
  have hget : z1X (0 : Int) (P2 ++ (x :: U3 ++ Z)) ((i + j : Nat) : Int) = x := get_at P2 x (U3 ++ Z) hA.2.2.1
  rw [hget] at hrow
  obtain ⟨hc, hf⟩ := hrow
  have hc : wr.cell? ⟨g, i + j, none⟩ = some (.int .u32 x) := hc
  have hj1 : decide ((j : Int) < (n : Int)) = true := dT (by omega)
  have hj2 : decide (j < n) = true := dT (by omega)
  have hj3 : (j < n) = True := eq_true hj
  have e6 : wrap64 ((j : Int) + 1) = ((j + 1 : Nat) : Int) := by rw [d64 (by have := HT.out; omega) (by have := HT.out; omega)]; omega
  have HX := aS hx
  have HY := aS hvj
  have HJ := aS hj
  clear hvj hx hA hget hj hat hdh
  go_wp2
  go_region_held3 (fun w' => w'.cell? ⟨g, i + j, none⟩ = some (.int .u32 x)) ((first | assumption | exact hc)) ((first
   | (go_at_call 253; (with_reducible refine (z3l.calls A1 c1 v (j : Int) y _ (HC.out _ (by first | exact HK.out | (repeat (first | apply z1g | apply z1V)); exact HK.out)) HC1.out HAT.out).mono ?_); rintro e_ w1 ⟨rfl, ⟨nd, rfl⟩⟩)
   | fail))
  go_wp2
  cases gk with
  | zero => exact absurd HA.out.1 (by have := HJ.out; omega)
  | succ k3 =>
   go_roundg k3
   case measure => omega
   case rel =>
    have hA := HA.out
    have hE := HE.out
    have hxx := HX.out
    have hyy := HY.out
    simp only [gvL, HDH.out.1, HDH.out.2] at hE
    refine ⟨_, j + 1, P2 ++ [(c + (x + y)) % 4294967296], U3, rfl, by rw [e6], ⟨?_⟩, ⟨?_⟩, ⟨?_⟩, ?_, ?_⟩
    ·have hok := yp.1 hA.2.2.2.2.2.2.1
     have hl := hA.2.2.2.2.2.2.2
     have hul := hA.2.1
     simp only [List.length_append, List.length_cons, List.length_nil] at hl hul ⊢
     refine ⟨by omega, by omega, by omega, by have := HJ.out; omega, by omega, by omega, hok.2, by omega⟩
    ·rw [← hE]
     simp
    ·have hp := Kd.z0q HR.out ((i + j : Nat) : Int) ((c + (x + y)) % 4294967296)
     rw [Int.toNat_natCast] at hp
     have hs2 : (P2 ++ (x :: U3 ++ Z)).set (i + j) ((c + (x + y)) % 4294967296) = P2 ++ [(c + (x + y)) % 4294967296] ++ (U3 ++ Z) := by
      rw [show x :: U3 ++ Z = x :: (U3 ++ Z) from rfl, z2L _ _ _ _ hA.2.2.1]
      simp
     rw [hs2] at hp
     exact Kd.yK hp.1 _
    ·exact ⟨zu.zb2 (z1g HK.out _) _ _⟩
    ·exact ⟨zG (zd HB.out _) (Kd.yf HR.out g rfl)⟩
end
end
section
section
attribute [local go_sem] yd zV
def z0A (l : List Int) : Nat → Nat
 | 0 => 0
 | n + 1 => if l.getD n 0 = 0 then z0A l n else n + 1
theorem z7d (l : List Int) : ∀ n, z0A l n ≤ n
 | 0 => Nat.le_refl _
 | n + 1 => by
  unfold z0A
  split
  ·have := z7d l n; omega
  ·omega
theorem z56 {l : List Int} (h : dOk l) : ∀ n, n ≤ l.length → yG (l.take (z0A l n)) ∧ dv (l.take (z0A l n)) = dv (l.take n)
 | 0, _ => ⟨⟨(fun d hd => by simp [z0A] at hd), fun hn => absurd (by simp [z0A]) hn⟩, rfl⟩
 | n + 1, hn => by
  unfold z0A
  by_cases h0 : l.getD n 0 = 0
  ·rw [if_pos h0]
   obtain ⟨h1, h2⟩ := z56 h n (by omega)
   refine ⟨h1, ?_⟩
   rw [h2, z2h (by omega), z1M, h0, Int.mul_zero, Int.add_zero]
  ·rw [if_neg h0]
   have hl : (l.take (n + 1)).length = n + 1 := by rw [List.length_take]; omega
   refine ⟨⟨xc h _, fun hne => ?_⟩, rfl⟩
   rw [z2S hl hne, List.getD_eq_getElem?_getD, List.getElem?_take_of_lt (by omega), ← List.getD_eq_getElem?_getD]
   exact h0
theorem z9z (g cap : Nat) (l : List Int) (w0 w : World) (hR : z19 w w0.heap.size g l.length cap l) (hb : l.length ≤ 1000000) :
 Calls Tryz.prog 220 #[.slice (some ⟨g, 0, none⟩) l.length cap] w fun e w' => e = .returned (.slice (some ⟨g, 0, none⟩) (z0A l l.length) cap) ∧ zj w w' := by
 have HR := aS hR
 have HB := aS hb
 have HC := aS (Kd.zz hR).2.1
 clear hR hb
 go_enter Tryz.func220, Tryz.ntmps220
 go_wp2
 go_loopg [0] (l.length + 1) (fun kq v0 w' => ∃ n : Nat, v0 = .slice (some ⟨g, 0, none⟩) n cap ∧ Aside0 (kq = n + 1 ∧ n ≤ l.length ∧ z0A l n = z0A l l.length) ∧ zj w w')
 case atStart => exact ⟨l.length, rfl, ⟨rfl, Nat.le_refl _, rfl⟩, ⟨0, rfl⟩⟩
 case round =>
  obtain ⟨n, rfl, HN, ⟨nd, rfl⟩⟩ := hrel
  cases n with
  | zero =>
   have h1 : z0A l l.length = 0 := HN.out.2.2.symm
   go_wp2
   go_ret
   rw [h1]
   exact ⟨rfl, ⟨_, rfl⟩⟩
  | succ n =>
   have hn := HN.out
   have hr := (Kd.yx (0 : Int) HR.out ((n : Nat) : Int) (by omega) (by omega)).1
   rw [Int.toNat_natCast] at hr
   have r1 : w.cell? ⟨g, n, none⟩ = some (.int .u32 (l.getD n 0)) := hr
   have e1 : wrap64 (((n + 1 : Nat) : Int) - 1) = (n : Int) := by rw [d64 (by have := HB.out; omega) (by have := HB.out; omega)]; omega
   have e2 : wrap64 ((n : Int) + 1 - 1) = (n : Int) := by rw [d64 (by have := HB.out; omega) (by have := HB.out; omega)]; omega
   have e3 : wrap64 (n : Int) = (n : Int) := d64 (by omega) (by have := HB.out; omega)
   have c3 : (0 ≤ (n : Int)) = True := eq_true (by omega)
   have c1 : (n ≤ cap) = True := eq_true (by have := HC.out; omega)
   have c2 : ((n : Int) ≤ (cap : Int)) = True := eq_true (by have := HC.out; omega)
   have hstep : z0A l (n + 1) = if l.getD n 0 = 0 then z0A l n else n + 1 := rfl
   generalize l.getD n 0 = x at r1 hstep
   have HS := aS hstep
   clear hn hr hstep
   by_cases hx : x = 0
   ·subst hx
    go_wp2
    cases gk with
    | zero => exact absurd HN.out.1 (by omega)
    | succ k3 =>
     go_roundg k3
     case measure => omega
     case rel => exact ⟨n, rfl, ⟨by have := HN.out; omega, by have := HN.out; omega, by rw [← HN.out.2.2, HS.out]; simp⟩, ⟨_, rfl⟩⟩
   ·have x1 : (x == 0) = false := beq_eq_false_iff_ne.2 hx
    have h1 : z0A l l.length = n + 1 := by rw [← HN.out.2.2, HS.out, if_neg hx]
    clear hx HS
    go_wp2
    go_ret
    rw [h1]
    exact ⟨rfl, ⟨_, rfl⟩⟩
end
end
def nv (l : List Int) : Nat := (dv l).toNat
theorem z0e {l : List Int} (h : dOk l) : ((nv l : Nat) : Int) = dv l := Int.toNat_of_nonneg (yc l h).1
theorem z6q {l : List Int} (h : yG l) : nv l = 0 ↔ l = [] := by
 have h1 := z0e h.1
 constructor
 ·intro h0
  exact z5v h (by rw [← h1, h0]; rfl)
 ·intro h0
  subst h0
  rfl
theorem zae (a b : Nat) : Nat.gcd (2 * a) (2 * b) = 2 * Nat.gcd a b := Nat.gcd_mul_left 2 a b
theorem z35 {a b G : Nat} (h : Nat.gcd (2 * a) b = G) (hG : G % 2 = 1) : Nat.gcd a b = G := by
 have hb : Nat.Coprime 2 b := by
  rcases Nat.mod_two_eq_zero_or_one b with h0 | h1
  ·exfalso
   have : 2 ∣ G := by rw [← h]; exact Nat.dvd_gcd ⟨a, rfl⟩ (Nat.dvd_of_mod_eq_zero h0)
   omega
  ·show Nat.gcd 2 b = 1
   rw [Nat.gcd_rec, h1]
   rfl
 rw [← h, hb.gcd_mul_left_cancel]
theorem z4O {a b G : Nat} (h : Nat.gcd a (2 * b) = G) (hG : G % 2 = 1) : Nat.gcd a b = G := by
 rw [Nat.gcd_comm] at h ⊢
 exact z35 h hG
theorem z6O {a b G : Nat} (h : Nat.gcd a b = G) (hle : a ≤ b) : Nat.gcd a (b - a) = G := by
 rw [Nat.gcd_sub_self_right hle, h]
def z9f : Nat → Nat → List Int
 | 0, _ => []
 | f + 1, n => if n = 0 then [] else ((n % 4294967296 : Nat) : Int) :: z9f f (n / 4294967296)
theorem z2U : ∀ (f n : Nat), n ≤ f → yG (z9f f n) ∧ dv (z9f f n) = (n : Int)
 | 0, n, h => by
  have : n = 0 := by omega
  subst this
  exact ⟨⟨(fun d hd => by cases hd), fun hn => absurd rfl hn⟩, rfl⟩
 | f + 1, n, h => by
  unfold z9f
  by_cases h0 : n = 0
  ·rw [if_pos h0, h0]
   exact ⟨⟨(fun d hd => by cases hd), fun hn => absurd rfl hn⟩, rfl⟩
  rw [if_neg h0]
  obtain ⟨⟨h1, h2⟩, h3⟩ := z2U f (n / 4294967296) (by omega)
  generalize z9f f (n / 4294967296) = l0 at *
  refine ⟨⟨yp.2 ⟨by omega, h1⟩, fun hn => ?_⟩, ?_⟩
  ·cases l0 with
   | nil =>
    simp only [dv] at h3
    simp only [List.getLast_singleton]
    omega
   | cons a l =>
    rw [List.getLast_cons (List.cons_ne_nil a l)]
    exact h2 (List.cons_ne_nil a l)
  ·simp only [dv]
   rw [h3]
   omega
def z5u (l : List Int) : Bool := l.all (fun d => decide (0 ≤ d ∧ d < 4294967296)) && (l.getLast? != some 0)
theorem z2N {l : List Int} : z5u l = true ↔ yG l := by
 unfold z5u yG dOk
 rw [Bool.and_eq_true, List.all_eq_true]
 constructor
 ·rintro ⟨h1, h2⟩
  refine ⟨fun d hd => by simpa using h1 d hd, fun hn h0 => ?_⟩
  rw [List.getLast?_eq_some_getLast hn, h0] at h2
  simp at h2
 ·rintro ⟨h1, h2⟩
  refine ⟨fun d hd => by simpa using h1 d hd, ?_⟩
  cases l with
  | nil => rfl
  | cons a l =>
   rw [List.getLast?_eq_some_getLast (List.cons_ne_nil a l)]
   have := h2 (List.cons_ne_nil a l)
   simpa using this
theorem z4I {r y : List Int} (hr : yG r) (hy : yG y) (h : dv r ≤ dv y) : r.length ≤ y.length := by
 rcases Nat.lt_or_ge y.length r.length with h1 | h1
 ·have h2 := (yc y hy.1).2
  have h3 := (z0b hr (n := r.length - 1) (by omega)).1
  have := z3C (show y.length ≤ r.length - 1 by omega)
  omega
 ·exact h1
end Go.Proofs.QP

