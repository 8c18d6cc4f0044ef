import Derived.Laws.Cover3
import Derived.Test.YtbkknoipgmlcmaaGreatDoorQGM9
import Derived.Test.YtbkknoipgmlcmaaGreatDoorQGM11
set_option linter.all false
set_option maxHeartbeats 8000000
set_option maxRecDepth 100000
namespace Go.Proofs.QP
open Go.RowKit Go.Proofs.PW Go.Proofs.PL Go.Proofs.PM Go.Proofs.FX
theorem z79 {l : List Int} (hb : l.length ≤ 1000000) : ∀ n : Nat, n ≤ l.length → Ev (fun k => zx.l0 k l (n : Int)) (l.take (z0A l n))
 | 0, _ => by
  refine Ev.step (f := fun _ => some (l.take 0)) (fun k => ?_) (Ev.now _)
  simp only [zx.l0]
  rw [if_neg (by omega), if_pos (by omega), if_pos (by omega)]
  rfl
 | n + 1, h => by
  have e1 : wrap64 (((n + 1 : Nat) : Int) - 1) = (n : Int) := by rw [d64 (by omega) (by omega)]; omega
  by_cases h0 : l.getD n 0 = 0
  ·have ih := z79 hb n (by omega)
   have et : z0A l (n + 1) = z0A l n := by show (if l.getD n 0 = 0 then z0A l n else n + 1) = _; rw [if_pos h0]
   rw [et]
   refine Ev.step (fun k => ?_) ih
   simp only [zx.l0, e1, xL, h0]
   rw [if_pos (by omega), if_pos (by omega), if_pos (by omega), if_pos trivial]
  ·have et : z0A l (n + 1) = n + 1 := by show (if l.getD n 0 = 0 then z0A l n else n + 1) = _; rw [if_neg h0]
   rw [et]
   refine Ev.step (f := fun _ => some (l.take (n + 1))) (fun k => ?_) (Ev.now _)
   simp only [zx.l0, e1, xL]
   rw [if_pos (by omega), if_pos (by omega), if_pos (by omega), if_neg h0, if_pos (by omega), if_pos (by omega), Int.toNat_natCast]
theorem z3T {l : List Int} (hl : dOk l) (hb : l.length ≤ 1000000) : ∃ r, Ev (fun k => zx.f k l) r ∧ yG r ∧ dv r = dv l := by
 obtain ⟨h1, h2⟩ := z56 hl l.length (Nat.le_refl _)
 rw [List.take_of_length_le (Nat.le_refl _)] at h2
 exact ⟨_, z79 hb l.length (Nat.le_refl _), h1, h2⟩
theorem z8P {x : List Int} (hx : dOk x) (hb : x.length ≤ 100000) : ∀ (n : Nat) (z : List Int) (b : Int), n ≤ x.length → z.length = x.length - n → dOk z → dv z = dv (x.drop n) / 2 → b = dv (x.drop n) % 2 →
 ∃ r, Ev (fun k => zH.l0 k x (List.replicate n 0 ++ z) b ((n : Int) - 1)) r ∧ yG r ∧ dv r = dv x / 2
 | 0, z, b, _, hz, hok, hv, _ => by
  obtain ⟨r, h1, h2, h3⟩ := z3T hok (by omega)
  refine ⟨r, ?_, h2, by rw [h3, hv, List.drop_zero]⟩
  refine Ev.step (f := fun k => (zx.f k z).bind fun t => some t) (fun k => ?_) (Ev.bind h1 (Ev.now _))
  simp only [zH.l0]
  rw [if_neg (by omega)]
  rfl
 | n + 1, z, b, hn, hz, hok, hv, hbb => by
  have hg := zX hx n
  have hd := drop_one (l := x) (n := n) (by omega)
  have e0 : (((n + 1 : Nat) : Int) - 1) = (n : Int) := by omega
  have e1 : wrap64 ((n : Int) - 1) = (n : Int) - 1 := d64 (by omega) (by omega)
  have hb2 : 0 ≤ b ∧ b < 2 := by omega
  have eo := (z4U (i := 31) (a := (b * 2147483648) % 4294967296) (b := x.getD n 0 / 2) (by omega) (by omega) (by omega) (by omega)).2
  have et : Int.tmod (x.getD n 0) 2 = x.getD n 0 % 2 := Int.tmod_eq_emod_of_nonneg hg.1
  have hset : (List.replicate (n + 1) 0 ++ z).set n ((b * 2147483648) % 4294967296 + x.getD n 0 / 2) = List.replicate n 0 ++ ((b * 2147483648) % 4294967296 + x.getD n 0 / 2) :: z := by
   rw [List.replicate_succ', List.append_assoc]
   exact z2L _ _ _ _ (List.length_replicate ..)
  have hlen : (List.replicate (n + 1) 0 ++ z).length = x.length := by rw [List.length_append, List.length_replicate]; omega
  have hdv : dv (x.drop n) = x.getD n 0 + 4294967296 * dv (x.drop (n + 1)) := by rw [hd]; rfl
  obtain ⟨r, h1, h2, h3⟩ := z8P hx hb n (((b * 2147483648) % 4294967296 + x.getD n 0 / 2) :: z) (x.getD n 0 % 2) (by omega) (by rw [List.length_cons]; omega) (yp.2 ⟨by omega, hok⟩) (by rw [hdv]; simp only [dv]; rw [hv]; omega) (by rw [hdv]; omega)
  refine ⟨r, Ev.step (fun k => ?_) h1, h2, h3⟩
  rw [e0]
  simp only [zH.l0, xL, eo, et, e1, hlen, Int.toNat_natCast, hset]
  rw [if_pos (by omega), if_pos (by omega), if_pos (by omega), if_pos (by omega)]
theorem z3F {x : List Int} (hx : dOk x) (hb : x.length ≤ 100000) : ∃ r, Ev (fun k => zH.f k x) r ∧ yG r ∧ dv r = dv x / 2 := by
 obtain ⟨r, h1, h2, h3⟩ := z8P hx hb x.length [] 0 (Nat.le_refl _) (by simp) (fun d hd => by cases hd) (by rw [List.drop_of_length_le (Nat.le_refl _)]; rfl) (by rw [List.drop_of_length_le (Nat.le_refl _)]; rfl)
 refine ⟨r, Ev.congr (fun k => ?_) h1, h2, h3⟩
 unfold zH.f
 rw [if_pos (by omega), Int.toNat_natCast, if_pos (by omega), d64 (by omega) (by omega), List.append_nil]
theorem zaS {x y : List Int} (hx : dOk x) (hy : dOk y) (hl : x.length = y.length) (hb : x.length ≤ 1000000) : ∀ n : Nat, n ≤ x.length → x.drop n = y.drop n →
 ∃ c, Ev (fun k => zF.l0 k x y ((n : Int) - 1)) c ∧ (c > 0 ↔ dv y < dv x)
 | 0, _, hd => by
  have : x = y := by simpa using hd
  subst this
  refine ⟨0, Ev.step (f := fun _ => some 0) (fun k => ?_) (Ev.now _), by omega⟩
  simp only [zF.l0]
  rw [if_neg (by omega)]
 | n + 1, hn, hd => by
  have e0 : (((n + 1 : Nat) : Int) - 1) = (n : Int) := by omega
  have e1 : wrap64 ((n : Int) - 1) = (n : Int) - 1 := d64 (by omega) (by omega)
  by_cases he : x.getD n 0 = y.getD n 0
  ·obtain ⟨c, hc, hi⟩ := zaS hx hy hl hb n (by omega) (by rw [drop_one (by omega), drop_one (l := y) (by omega), he, hd])
   refine ⟨c, Ev.step (fun k => ?_) hc, hi⟩
   rw [e0]
   simp only [zF.l0, xL, he, e1]
   rw [if_pos (by omega), if_pos (by omega), if_pos (by omega), if_pos (by omega), if_neg (by omega), if_neg (by omega)]
  have hv : dv y < dv x ↔ y.getD n 0 < x.getD n 0 := by
   have h1 := z0E x n (by omega)
   have h2 := z0E y n (by omega)
   have b1 := yc _ (xc hx n)
   have b2 := yc _ (xc hy n)
   rw [List.length_take, Nat.min_eq_left (by omega)] at b1 b2
   rw [drop_one (by omega)] at h1
   rw [drop_one (by omega), ← hd] at h2
   simp only [dv] at h1 h2
   generalize dv (x.drop (n + 1)) = t at h1 h2
   generalize x.getD n 0 = a at *
   generalize y.getD n 0 = b at *
   have hp := z0N n
   rcases Int.lt_or_gt_of_ne he with h | h
   ·have := Int.mul_le_mul_of_nonneg_left (show a + 1 + 4294967296 * t ≤ b + 4294967296 * t by omega) (Int.le_of_lt hp)
    have e : pB n * (a + 1 + 4294967296 * t) = pB n * (a + 4294967296 * t) + pB n := by grind
    omega
   ·have := Int.mul_le_mul_of_nonneg_left (show b + 1 + 4294967296 * t ≤ a + 4294967296 * t by omega) (Int.le_of_lt hp)
    have e : pB n * (b + 1 + 4294967296 * t) = pB n * (b + 4294967296 * t) + pB n := by grind
    omega
  have hxr : rd x (n : Int) = x.getD n 0 := xL x n
  have hyr : rd y (n : Int) = y.getD n 0 := xL y n
  by_cases hlt : x.getD n 0 < y.getD n 0
  ·refine ⟨-1, Ev.step (f := fun _ => some (-1)) (fun k => ?_) (Ev.now _), by rw [hv]; omega⟩
   rw [e0]
   unfold zF.l0
   rw [hxr, hyr, if_pos (by omega), if_pos (by omega), if_pos (by omega), if_pos (by omega), if_pos hlt]
  ·refine ⟨1, Ev.step (f := fun _ => some 1) (fun k => ?_) (Ev.now _), by rw [hv]; omega⟩
   rw [e0]
   unfold zF.l0
   rw [hxr, hyr, if_pos (by omega), if_pos (by omega), if_pos (by omega), if_pos (by omega), if_neg hlt, if_pos (by omega)]
theorem zc1 {x y : List Int} (hx : yG x) (hy : yG y) (hbx : x.length ≤ 1000000) (hby : y.length ≤ 1000000) : ∃ c, Ev (fun k => zF.f k x y) c ∧ (c > 0 ↔ dv y < dv x) := by
 have key : ∀ {x y : List Int}, yG x → yG y → x.length < y.length → dv x < dv y := by
  intro x y hx hy h
  have h1 := (yc x hx.1).2
  have h2 := (z0b hy (n := y.length - 1) (by omega)).1
  have := z3C (show x.length ≤ y.length - 1 by omega)
  omega
 rcases Nat.lt_trichotomy x.length y.length with h | h | h
 ·refine ⟨-1, Ev.congr (f := fun _ => some (-1)) (fun k => ?_) (Ev.now _), by have := key hx hy h; omega⟩
  unfold zF.f
  rw [if_neg (by omega), if_pos (by omega)]
 ·obtain ⟨c, hc, hi⟩ := zaS hx.1 hy.1 h hbx x.length (Nat.le_refl _) (by rw [List.drop_of_length_le (Nat.le_refl _), List.drop_of_length_le (by omega)])
  refine ⟨c, Ev.congr (fun k => ?_) hc, hi⟩
  unfold zF.f
  rw [if_pos (by omega), d64 (by omega) (by omega)]
 ·refine ⟨1, Ev.congr (f := fun _ => some 1) (fun k => ?_) (Ev.now _), by have := key hy hx h; omega⟩
  unfold zF.f
  rw [if_neg (by omega), if_neg (by omega)]
theorem zd9 (l : List Int) (hl : dOk l) (j : Nat) : yM.f l (j : Int) = some (l.getD j 0) := by
 unfold yM.f
 by_cases h : (j : Int) < (l.length : Int)
 ·have c2 : (0 : Int) ≤ (j : Int) := by omega
  have := zX hl j
  rw [if_pos h, if_pos c2, xL, z0P this.1 (by omega)]
 ·rw [if_neg h, List.getD_eq_getElem?_getD, List.getElem?_eq_none (by omega)]
  rfl
theorem z2c (x : List Int) (i : Nat) : dv (x.take (i + 1)) = dv (x.take i) + pB i * x.getD i 0 := by
 rcases Nat.lt_or_ge i x.length with h | h
 ·exact z3y x i h
 ·rw [List.take_of_length_le (by omega), List.take_of_length_le h, List.getD_eq_getElem?_getD, List.getElem?_eq_none h]
  simp
theorem z89 {a b c : Int} (ha : 0 ≤ a ∧ a < 4294967296) (hb : 0 ≤ b ∧ b < 4294967296) (hc : c = 0 ∨ c = 1) :
 ∃ d c2, IntKind.u64.wrap ((IntKind.u64.wrap ((IntKind.u64.wrap ((IntKind.u64.wrap a) + 4294967296)) - b)) - c) % 4294967296 = d ∧ IntKind.u64.wrap (1 - (IntKind.u64.wrap ((IntKind.u64.wrap ((IntKind.u64.wrap ((IntKind.u64.wrap a) + 4294967296)) - b)) - c)) / 4294967296) = c2 ∧
  (0 ≤ d ∧ d < 4294967296) ∧ (c2 = 0 ∨ c2 = 1) ∧ d = a - b - c + 4294967296 * c2 := by
 refine ⟨_, _, rfl, rfl, ?_⟩
 rw [z0P (n := a) (by omega) (by omega), z0P (n := a + 4294967296) (by omega) (by omega), z0P (n := a + 4294967296 - b) (by omega) (by omega), z0P (n := a + 4294967296 - b - c) (by omega) (by omega)]
 generalize hq : a + 4294967296 - b - c = q
 have h1 : q / 4294967296 = 0 ∨ q / 4294967296 = 1 := by omega
 rw [z0P (n := 1 - q / 4294967296) (by omega) (by omega)]
 omega
theorem zb0 {x y : List Int} (hx : dOk x) (hy : dOk y) (hb : x.length ≤ 100000) {r : List Int} (hfin : ∀ z c, z.length = x.length → dOk z → (c = 0 ∨ c = 1) → dv z = dv x - dv (y.take x.length) + pB x.length * c → Ev (fun k => zx.f k z) r) :
 ∀ (m i : Nat) (z : List Int) (c : Int), i + m = x.length → z.length = i → dOk z → (c = 0 ∨ c = 1) → dv z = dv (x.take i) - dv (y.take i) + pB i * c →
  Ev (fun k => zP.l0 k x y (z ++ List.replicate m 0) c (i : Int)) r
 | 0, i, z, c, hi, hz, hok, hc, hv => by
  have h := hfin z c (by omega) hok hc (by rw [hv, show i = x.length by omega, List.take_of_length_le (Nat.le_refl _)])
  refine Ev.step (f := fun k => (zx.f k z).bind fun t => some t) (fun k => ?_) (Ev.bind h (Ev.now _))
  simp only [zP.l0]
  rw [if_neg (by omega), List.replicate_zero, List.append_nil]
 | m + 1, i, z, c, hi, hz, hok, hc, hv => by
  have c1 : (i : Int) < (x.length : Int) := by omega
  have c0 : (0 : Int) ≤ (i : Int) := by omega
  have e3 : wrap64 ((i : Int) + 1) = ((i + 1 : Nat) : Int) := by rw [d64 (by omega) (by omega)]; omega
  have hlen : (z ++ List.replicate (m + 1) 0).length = x.length := by rw [List.length_append, List.length_replicate]; omega
  have hi2 : i + 1 + m = x.length := by omega
  have hset : ∀ d : Int, (z ++ List.replicate (m + 1) 0).set i d = z ++ [d] ++ List.replicate m 0 := fun d => by
   rw [List.replicate_succ, z2L _ _ _ _ hz]
   simp
  have hz2 : ∀ d : Int, (z ++ [d]).length = i + 1 := fun d => by rw [List.length_append, hz]; rfl
  have hok2 : ∀ d : Int, 0 ≤ d ∧ d < 4294967296 → dOk (z ++ [d]) := fun d hd => z0U.2 ⟨hok, yp.2 ⟨hd, fun d hd => by cases hd⟩⟩
  have hdg := zd9 y hy i
  obtain ⟨d, c2, e1, e2, hd, hc2, he⟩ := z89 (zX hx i) (zX hy i) hc
  have hv2 : dv (z ++ [d]) = dv (x.take (i + 1)) - dv (y.take (i + 1)) + pB (i + 1) * c2 := by
   clear e1 e2
   rw [z1M, hz, hv, z2c x i, z2c y i, he, show pB (i + 1) = 4294967296 * pB i from rfl]
   grind
  have ih := zb0 hx hy hb hfin m (i + 1) (z ++ [d]) c2 hi2 (hz2 d) (hok2 d hd) hc2 hv2
  refine Ev.step (fun k => ?_) ih
  simp only [zP.l0, hdg, Option.bind_some, xL, hlen, e1, e2, e3, Int.toNat_natCast, hset]
  rw [if_pos c1, if_pos c0, if_pos c1]
theorem z8Q {x y : List Int} (hx : yG x) (hy : yG y) (hb : x.length ≤ 100000) (hle : dv y ≤ dv x) : ∃ r, Ev (fun k => zP.f k x y) r ∧ yG r ∧ dv r = dv x - dv y := by
 have hyl := z4I hy hx hle
 have b0 := yc x hx.1
 have b1 := yc y hy.1
 have hp := z0N x.length
 obtain ⟨r0, hr0, hr1⟩ : ∃ r0 : List Int, yG r0 ∧ dv r0 = dv x - dv y := by
  obtain ⟨h1, h2⟩ := z2U (dv x - dv y).toNat (dv x - dv y).toNat (Nat.le_refl _)
  exact ⟨_, h1, by rw [h2]; omega⟩
 have h := zb0 hx.1 hy.1 hb (r := r0) (fun z c hz hok hc hv => by
  rw [List.take_of_length_le hyl] at hv
  have bz := yc z hok
  rw [hz] at bz
  have hc0 : c = 0 := by
   rcases hc with h | h
   ·exact h
   ·subst h
    rw [Int.mul_one] at hv
    omega
  subst hc0
  obtain ⟨s, hs, hs1, hs2⟩ := z3T hok (by omega)
  rw [z3x hr0 hs1 (by rw [hs2, hr1, hv]; simp)]
  exact hs) x.length 0 [] 0 (by omega) rfl (fun d hd => by cases hd) (.inl rfl) (by simp [dv])
 refine ⟨r0, Ev.congr (fun k => ?_) h, hr0, hr1⟩
 unfold zP.f
 rw [if_pos (by omega), Int.toNat_natCast, if_pos (by omega), List.nil_append]
 rfl
theorem z7a {x : List Int} (hx : dOk x) (hb : x.length ≤ 100000) {r : List Int} (hfin : ∀ z, z.length = x.length + 1 → dOk z → dv z = 2 * dv x → Ev (fun k => zx.f k z) r) :
 ∀ (m i : Nat) (z : List Int) (c : Int), i + m = x.length → z.length = i → dOk z → (c = 0 ∨ c = 1) → dv z + pB i * c = 2 * dv (x.take i) →
  Ev (fun k => zW.l0 k x c (z ++ List.replicate (m + 1) 0) (i : Int)) r
 | 0, i, z, c, hi, hz, hok, hc, hv => by
  have hset : (z ++ List.replicate (0 + 1) 0).set x.length c = z ++ [c] := z2L _ _ _ _ (by omega)
  have h := hfin (z ++ [c]) (by rw [List.length_append, hz]; simp; omega) (z0U.2 ⟨hok, yp.2 ⟨by omega, fun d hd => by cases hd⟩⟩) (by
   rw [z1M, hz, hv, List.take_of_length_le (by omega)])
  refine Ev.step (f := fun k => (zx.f k (z ++ [c])).bind fun t => some t) (fun k => ?_) (Ev.bind h (Ev.now _))
  have hlen : (z ++ List.replicate (0 + 1) 0).length = x.length + 1 := by rw [List.length_append, List.length_replicate]; omega
  simp only [zW.l0, hlen, Int.toNat_natCast, hset]
  rw [if_neg (by omega), if_pos (by omega), if_pos (by omega)]
 | m + 1, i, z, c, hi, hz, hok, hc, hv => by
  have hg := zX hx i
  have e3 : wrap64 ((i : Int) + 1) = ((i + 1 : Nat) : Int) := by rw [d64 (by omega) (by omega)]; omega
  have eo := (z4U (i := 1) (a := (x.getD i 0 * 2) % 4294967296) (b := c) (by omega) (by omega) (by omega) (by omega)).1
  have hlen : (z ++ List.replicate (m + 1 + 1) 0).length = x.length + 1 := by rw [List.length_append, List.length_replicate]; omega
  have hset : (z ++ List.replicate (m + 1 + 1) 0).set i ((x.getD i 0 * 2) % 4294967296 + c) = z ++ [(x.getD i 0 * 2) % 4294967296 + c] ++ List.replicate (m + 1) 0 := by
   rw [List.replicate_succ, z2L _ _ _ _ hz]
   simp
  have hdg : (x.getD i 0 * 2) % 4294967296 = x.getD i 0 * 2 - 4294967296 * (x.getD i 0 / 2147483648) := by omega
  have ih := z7a hx hb hfin m (i + 1) (z ++ [(x.getD i 0 * 2) % 4294967296 + c]) (x.getD i 0 / 2147483648) (by omega) (by rw [List.length_append, hz]; rfl) (z0U.2 ⟨hok, yp.2 ⟨by omega, fun d hd => by cases hd⟩⟩) (by omega) (by
   rw [z1M, hz, z2c x i, hdg, show pB (i + 1) = 4294967296 * pB i from rfl]
   generalize x.getD i 0 / 2147483648 = q at *
   grind)
  refine Ev.step (fun k => ?_) ih
  have c1 : (i : Int) < (x.length : Int) := by omega
  have c0 : (0 : Int) ≤ (i : Int) := by omega
  have c2 : (i : Int) < ((x.length + 1 : Nat) : Int) := by omega
  simp only [zW.l0, xL, hlen, eo, e3, Int.toNat_natCast, hset]
  rw [if_pos c1, if_pos c0, if_pos c2]
theorem z9s {x : List Int} (hx : yG x) (hb : x.length ≤ 100000) : ∃ r, Ev (fun k => zW.f k x 0) r ∧ yG r ∧ dv r = 2 * dv x := by
 have b0 := yc x hx.1
 obtain ⟨r0, hr0, hr1⟩ : ∃ r0 : List Int, yG r0 ∧ dv r0 = 2 * dv x := by
  obtain ⟨h1, h2⟩ := z2U (2 * dv x).toNat (2 * dv x).toNat (Nat.le_refl _)
  exact ⟨_, h1, by rw [h2]; omega⟩
 have h := z7a hx.1 hb (r := r0) (fun z hz hok hv => by
  obtain ⟨s, hs, hs1, hs2⟩ := z3T hok (by omega)
  rw [z3x hr0 hs1 (by rw [hs2, hr1, hv])]
  exact hs) x.length 0 [] 0 (by omega) rfl (fun d hd => by cases hd) (.inl rfl) (by simp [dv])
 refine ⟨r0, Ev.congr (fun k => ?_) h, hr0, hr1⟩
 have e1 : wrap64 ((x.length : Int) + 1) = ((x.length + 1 : Nat) : Int) := by rw [d64 (by omega) (by omega)]; omega
 unfold zW.f
 rw [e1, if_pos (by omega), Int.toNat_natCast, if_pos (by omega), List.nil_append]
 rfl
section
section
attribute [local go_sem] yd zV
attribute [local go_sem] xf xg xD xE yI yJ xl xm
mutual
def zc.l0 : Nat → List Int → List Int → Int → Option (List Int)
 | 0, _, _, _ => none
 | k + 1, x0, x1, x5 => if 0 < (x0.length : Int) then (if (Int.tmod (rd x0 0) 2) = 0 then (if 0 < (x1.length : Int) then (zc.j1 k x0 x1 x5 ((Int.tmod (rd x1 0) 2) == 0)) else (none)) else (zc.j1 k x0 x1 x5 false)) else (none)
def zc.j1 : Nat → List Int → List Int → Int → Bool → Option (List Int)
 | 0, _, _, _, _ => none
 | k + 1, x0, x1, x5, x31 => if x31 = true then ((zH.f k x0).bind fun t291 => ((zH.f k x1).bind fun t294 => (zc.l0 k t291 t294 (wrap64 (x5 + 1))))) else (zc.l1 k x0 x1 x5)
def zc.l1 : Nat → List Int → List Int → Int → Option (List Int)
 | 0, _, _, _ => none
 | k + 1, x0, x1, x5 => if (x1.length : Int) > 0 then (zc.l2 k x0 x1 x5) else (zc.l4 k x0 x5 0)
def zc.l2 : Nat → List Int → List Int → Int → Option (List Int)
 | 0, _, _, _ => none
 | k + 1, x0, x1, x5 => if 0 < (x0.length : Int) then (if (Int.tmod (rd x0 0) 2) = 0 then ((zH.f k x0).bind fun t298 => (zc.l2 k t298 x1 x5)) else (zc.l3 k x0 x1 x5)) else (none)
def zc.l3 : Nat → List Int → List Int → Int → Option (List Int)
 | 0, _, _, _ => none
 | k + 1, x0, x1, x5 => if 0 < (x1.length : Int) then (if (Int.tmod (rd x1 0) 2) = 0 then ((zH.f k x1).bind fun t302 => (zc.l3 k x0 t302 x5)) else ((zF.f k x0 x1).bind fun t305 => (if t305 > 0 then ((zP.f k x0 x1).bind fun t306 => (zc.l1 k x1 t306 x5)) else ((zP.f k x1 x0).bind fun t309 => (zc.l1 k x0 t309 x5))))) else (none)
def zc.l4 : Nat → List Int → Int → Int → Option (List Int)
 | 0, _, _, _ => none
 | k + 1, x0, x5, x7 => if x7 < x5 then ((zW.f k x0 0).bind fun t312 => (zc.l4 k t312 x5 (wrap64 (x7 + 1)))) else ((some (([] : List Int) : List Int)).bind fun y315 => (if y315.length + x0.length < 35184372088832 then (some (y315 ++ x0)) else (none)))
end
def zc.f (k : Nat) (l0 : List Int) (l1 : List Int) : Option (List Int) := if (l0.length : Int) = 0 then ((some (([] : List Int) : List Int)).bind fun y277 => (if y277.length + l1.length < 35184372088832 then (some (y277 ++ l1)) else (none))) else (if (l1.length : Int) = 0 then ((some (([] : List Int) : List Int)).bind fun y283 => (if y283.length + l0.length < 35184372088832 then (some (y283 ++ l0)) else (none))) else (zc.l0 k l0 l1 0))
theorem zc.calls (k : Nat) (P0_ : Nat → Prop) (A0 : Option Addr) (c0 : Nat) (l0 : List Int) (P1_ : Nat → Prop) (A1 : Option Addr) (c1 : Nat) (l1 : List Int) (r : List Int) (w : World) (hs0 : Kd.V (Kd.int .u32) 145 w w.heap.size (fun k_ => P0_ k_) (.slice A0 l0.length c0) l0) (hs1 : Kd.V (Kd.int .u32) 145 w w.heap.size (fun k_ => P1_ k_) (.slice A1 l1.length c1) l1) (h : zc.f k l0 l1 = some r) :
 Calls Tryz.prog 144 #[.slice A0 l0.length c0, .slice A1 l1.length c1] w fun e w' => ∃ v0_ : Value, e = .returned (v0_) ∧ Kd.R (Kd.int .u32) 145 w' w.heap.size (fun k_ => (w.heap.size ≤ k_)) v0_ r ∧ Below w.heap.size w w' := by
 have HO0 := aS (show Kd.V (Kd.int .u32) 145 w w.heap.size (fun k_ => ((P0_ k_ ∨ P1_ k_) ∨ w.heap.size ≤ k_)) (.slice A0 l0.length c0) l0 from Kd.xi hs0 (fun k_ hk => .inl (.inl hk)))
 have HO1 := aS (show Kd.V (Kd.int .u32) 145 w w.heap.size (fun k_ => ((P0_ k_ ∨ P1_ k_) ∨ w.heap.size ≤ k_)) (.slice A1 l1.length c1) l1 from Kd.xi hs1 (fun k_ hk => .inl (.inr hk)))
 have HB := hR w
 have H := h
 unfold zc.f at H
 clear h
 by_cases c3 : (l0.length : Int) = 0
 focus
  rw [if_pos c3] at H
  have c3b0 := bT c3
  have c3b1 := nF c3
  clear c3
  replace H := yB H
  obtain ⟨y277, Ny277, H⟩ := H
  replace H := iN_ H
  obtain ⟨c4, H⟩ := H
  have LMc4 := aS c4
  clear c4
  replace H := yS H
  obtain ⟨y280, Ny280, H⟩ := H
  obtain rfl := sI H
 rotate_left 1
 focus
  rw [if_neg c3] at H
  have c3b0 := bF c3
  have c3b1 := nT c3
  have c3b2 : ¬ (l0 = []) := fun h_ => c3 (by rw [h_]; rfl)
  by_cases c8 : (l1.length : Int) = 0
  focus
   rw [if_pos c8] at H
   have c8b0 := bT c8
   have c8b1 := nF c8
   clear c8
   replace H := yB H
   obtain ⟨y283, Ny283, H⟩ := H
   replace H := iN_ H
   obtain ⟨c9, H⟩ := H
   have LMc9 := aS c9
   clear c9
   replace H := yS H
   obtain ⟨y286, Ny286, H⟩ := H
   obtain rfl := sI H
  rotate_left 1
  focus
   rw [if_neg c8] at H
   have c8b0 := bF c8
   have c8b1 := nT c8
   have c8b2 : ¬ (l1 = []) := fun h_ => c8 (by rw [h_]; rfl)
   have H' := aS H
   clear H
   go_enter Tryz.func144, Tryz.ntmps144
   go_wp2
   go_loopg [0, 1, 5] k (fun kq v0 v1 v5 w' => ∃ (x0_1 : List Int) (x1_1 : List Int) (x5_1 : Int), v5 = .int .i64 x5_1 ∧ Aside0 (zc.l0 kq x0_1 x1_1 x5_1 = some r) ∧ Aside0 (kq ≤ k) ∧ Aside0 (Kd.V (Kd.int .u32) 145 w' w.heap.size (fun k_ => ((P0_ k_ ∨ P1_ k_) ∨ w.heap.size ≤ k_)) v0 x0_1) ∧ Aside0 (Kd.V (Kd.int .u32) 145 w' w.heap.size (fun k_ => ((P0_ k_ ∨ P1_ k_) ∨ w.heap.size ≤ k_)) v1 x1_1) ∧ Aside0 (Below w.heap.size w w'))
   case atStart => exact ⟨(l0), (l1), (0), rs, H', ⟨Nat.le_refl _⟩, ⟨by exact vA HO0.out⟩, ⟨by exact vA HO1.out⟩, ⟨bl HB⟩⟩
   case round =>
    clear H'
    obtain ⟨x0_1, x1_1, x5_1, rfl, HA, HK1, HO_0, HO_1, HB⟩ := hrel
    cases gk with
    | zero => exact absurd HA.out (by simp [zc.l0])
    | succ k1 =>
     have H := HA.out
     clear HA
     simp only [zc.l0] at H
     have HC13 := aS H
     clear H
     go_upto_region 6 with (fail)
     go_cut [31] (fun v31 wc => ∃ (kq : Nat) (x31_12 : Bool), v31 = .bool x31_12 ∧ Aside0 (zc.j1 kq x0_1 x1_1 x5_1 x31_12 = some r) ∧ Aside0 (kq ≤ k1) ∧ Aside0 (Kd.V (Kd.int .u32) 145 wc w.heap.size (fun k_ => ((P0_ k_ ∨ P1_ k_) ∨ w.heap.size ≤ k_)) u0 x0_1) ∧ Aside0 (Kd.V (Kd.int .u32) 145 wc w.heap.size (fun k_ => ((P0_ k_ ∨ P1_ k_) ∨ w.heap.size ≤ k_)) u1 x1_1) ∧ Aside0 (Below w.heap.size w wc))
     case first =>
      have H := HC13.out
      clear HC13
      replace H := iN_ H
      obtain ⟨c14, H⟩ := H
      have c14b0 := dT c14
      have c14b1 : decide (0 < x0_1.length) = true := dT (by omega)
      clear c14
      (first | rw [c14b0] | (simp only [yh, yQ]; rw [c14b0]) | skip)
      by_cases c15 : (Int.tmod (rd x0_1 0) 2) = 0; rotate_left
      ·rw [if_neg c15] at H
       have c15b0 := bF c15
       have c15b1 := nT c15
       have H' := aS H
       clear H
       obtain ⟨Ao19, co19, eo19⟩ := Kd.xO HO_0.out
       subst eo19
       have p289 : 0 ≤ (0 : Int) := (by omega)
       have q289 : 0 < (x0_1.length : Int) := oa
       obtain ⟨ad289, e289, hx289_0⟩ := Kd.zT (Kd.zM HO_0.out).2.2 0 p289 q289
       cases e289
       have qi289 : (0 < x0_1.length) = True := eq_true (by omega)
       (try rw [show ((0 : Int)).toNat = 0 from rfl] at hx289_0)
       (try rw [Addr.add_zero'] at hx289_0)
       replace p289 := eq_true p289
       replace q289 := eq_true q289
       go_wp2
       go_meet
       case rel => exact ⟨_, (false), rs, H', ⟨by have := HK1.out; first | omega | exact Nat.le_refl _⟩, ⟨by exact vA HO_0.out⟩, ⟨by exact vA HO_1.out⟩, ⟨bl HB⟩⟩
      rw [if_pos c15] at H
      have c15b0 := bT c15
      have c15b1 := nF c15
      clear c15
      replace H := iN_ H
      obtain ⟨c16, H⟩ := H
      have c16b0 := dT c16
      have c16b1 : decide (0 < x1_1.length) = true := dT (by omega)
      clear c16
      have H' := aS H
      clear H
      obtain ⟨Ao17, co17, eo17⟩ := Kd.xO HO_0.out
      subst eo17
      have p289 : 0 ≤ (0 : Int) := (by omega)
      have q289 : 0 < (x0_1.length : Int) := oa
      obtain ⟨ad289, e289, hx289_0⟩ := Kd.zT (Kd.zM HO_0.out).2.2 0 p289 q289
      cases e289
      have qi289 : (0 < x0_1.length) = True := eq_true (by omega)
      (try rw [show ((0 : Int)).toNat = 0 from rfl] at hx289_0)
      (try rw [Addr.add_zero'] at hx289_0)
      replace p289 := eq_true p289
      replace q289 := eq_true q289
      obtain ⟨Ao18, co18, eo18⟩ := Kd.xO HO_1.out
      subst eo18
      have p290 : 0 ≤ (0 : Int) := (by omega)
      have q290 : 0 < (x1_1.length : Int) := oa
      obtain ⟨ad290, e290, hx290_0⟩ := Kd.zT (Kd.zM HO_1.out).2.2 0 p290 q290
      cases e290
      have qi290 : (0 < x1_1.length) = True := eq_true (by omega)
      (try rw [show ((0 : Int)).toNat = 0 from rfl] at hx290_0)
      (try rw [Addr.add_zero'] at hx290_0)
      replace p290 := eq_true p290
      replace q290 := eq_true q290
      go_wp2
      go_meet
      case rel => exact ⟨_, (((Int.tmod (rd x1_1 0) 2) == 0)), rs, H', ⟨by have := HK1.out; first | omega | exact Nat.le_refl _⟩, ⟨by exact vA HO_0.out⟩, ⟨by exact vA HO_1.out⟩, ⟨bl HB⟩⟩
     case rest =>
      clear HC13
      obtain ⟨kq, x31_12, rfl, HA, HJ12, HO_0, HO_1, HB⟩ := hcut
      cases kq with
      | zero => exact absurd HA.out (by simp [zc.j1])
      | succ kj12 =>
       have H := HA.out
       clear HA
       simp only [zc.j1] at H
       by_cases c20 : x31_12 = true
       ·subst c20
        rw [if_pos rfl] at H
        replace H := bA H
        obtain ⟨t291, A21, H⟩ := H
        replace H := bA H
        obtain ⟨t294, A22, H⟩ := H
        have H' := aS H
        clear H
        obtain ⟨Ao23, co23, eo23⟩ := Kd.xO HO_0.out
        subst eo23
        go_wp2_with (first | ((with_reducible refine zi (f := 179) rfl ?_); refine gl 33 Tryz.func179 #[.slice Ao23 x0_1.length co23] ?_; (with_reducible refine (zH.calls kj12 _ _ x0_1 t291 _ ?side1 ?side2 A21.out).mono ?_); (case side1 => exact cA ((Kd.zM HO_0.out).2.2)); (case side2 => exact (Kd.zM HO_0.out).2.1); rintro e w24 ⟨v292, rfl, ho0, hb⟩; refine ⟨_, rfl, ?_⟩; replace HO_0 := aS (Kd.yy (by exact vA HO_0.out) (Kd.yf ho0) hb); replace HO_1 := aS (Kd.yy (by exact vA HO_1.out) (Kd.yf ho0) hb); have HO293 := aS (Kd.zL (Kd.z18 (M := fun k_ => (w.heap.size ≤ k_)) ho0 (zg (bl HB)) (fun k_ h_ => h_)) (zg (bl HB))); replace HB := hB_ HB hb; clear hb ho0; obtain ⟨Ao25, co25, eo25⟩ := Kd.xO HO_1.out; subst eo25) | ((with_reducible refine zi (f := 179) rfl ?_); refine gl 35 Tryz.func179 #[.slice Ao25 x1_1.length co25] ?_; (with_reducible refine (zH.calls kj12 _ _ x1_1 t294 _ ?side1 ?side2 A22.out).mono ?_); (case side1 => exact cA ((Kd.zM HO_1.out).2.2)); (case side2 => exact (Kd.zM HO_1.out).2.1); rintro e w26 ⟨v295, rfl, ho0, hb⟩; refine ⟨_, rfl, ?_⟩; replace HO_0 := aS (Kd.yy (by exact vA HO_0.out) (Kd.yf ho0) hb); replace HO_1 := aS (Kd.yy (by exact vA HO_1.out) (Kd.yf ho0) hb); have HO296 := aS (Kd.zL (Kd.z2q (Kd.z18 (M := fun k_ => (w.heap.size ≤ k_)) ho0 (zg (bl HB)) (fun k_ h_ => h_)) (Kd.z27 (by exact rA HO293.out))) (zg (bl HB))); replace HO293 := aS (Kd.yP (by exact rA HO293.out) (Kd.yf ho0) hb); replace HB := hB_ HB hb; clear hb ho0))
        go_roundg kj12
        case measure => have := HK1.out; have := HJ12.out; omega
        case rel => exact ⟨(t291), (t294), (wrap64 (x5_1 + 1)), rs, H', ⟨by have := HK1.out; have := HJ12.out; omega⟩, ⟨Kd.xi (Kd.R_V (by exact rA (Kd.zw HO293.out (fun _ hk => hk.1.1)))) (fun k_ hk => by first | exact ⟨(.inr (hk.1)), hk.2⟩ | exact (.inr (hk)))⟩, ⟨Kd.xi (Kd.R_V (by exact rA (Kd.zw HO296.out (fun _ hk => hk.1.1)))) (fun k_ hk => by first | exact ⟨(.inr (hk.1)), hk.2⟩ | exact (.inr (hk)))⟩, ⟨bl HB⟩⟩
       replace c20 := Bool.eq_false_iff.mpr c20
       subst c20
       rw [if_neg iN] at H
       have H' := aS H
       clear H
       go_wp2
       go_loopg [0, 1] kj12 (fun kq v0 v1 w' => ∃ (x0_3 : List Int) (x1_3 : List Int), Aside0 (zc.l1 kq x0_3 x1_3 x5_1 = some r) ∧ Aside0 (kq ≤ kj12) ∧ Aside0 (Kd.V (Kd.int .u32) 145 w' w.heap.size (fun k_ => ((P0_ k_ ∨ P1_ k_) ∨ w.heap.size ≤ k_)) v0 x0_3) ∧ Aside0 (Kd.V (Kd.int .u32) 145 w' w.heap.size (fun k_ => ((P0_ k_ ∨ P1_ k_) ∨ w.heap.size ≤ k_)) v1 x1_3) ∧ Aside0 (Below w.heap.size w w'))
       case atStart => exact ⟨(x0_1), (x1_1), H', ⟨Nat.le_refl _⟩, ⟨by exact vA HO_0.out⟩, ⟨by exact vA HO_1.out⟩, ⟨bl HB⟩⟩
       case round =>
        clear H'
        obtain ⟨x0_3, x1_3, HA, HK3, HO_0, HO_1, HB⟩ := hrel
        cases gk with
        | zero => exact absurd HA.out (by simp [zc.l1])
        | succ k3 =>
         have H := HA.out
         clear HA
         simp only [zc.l1] at H
         by_cases c27 : (x1_3.length : Int) > 0; rotate_left
         ·rw [if_neg c27] at H
          have c27b0 := dF c27
          have c27b1 : decide (0 < x1_3.length) = false := dF (by omega)
          clear c27
          have H' := aS H
          clear H
          obtain ⟨Ao48, co48, eo48⟩ := Kd.xO HO_1.out
          subst eo48
          go_wp2
          go_loopg [0, 7] k3 (fun kq v0 v7 w' => ∃ (x0_4 : List Int) (x7_4 : Int), v7 = .int .i64 x7_4 ∧ Aside0 (zc.l4 kq x0_4 x5_1 x7_4 = some r) ∧ Aside0 (kq ≤ k3) ∧ Aside0 (Kd.V (Kd.int .u32) 145 w' w.heap.size (fun k_ => ((P0_ k_ ∨ P1_ k_) ∨ w.heap.size ≤ k_)) v0 x0_4) ∧ Aside0 (Below w.heap.size w w'))
          case atStart => exact ⟨(x0_3), (0), rs, H', ⟨Nat.le_refl _⟩, ⟨by exact vA HO_0.out⟩, ⟨bl HB⟩⟩
          case round =>
           clear H'
           obtain ⟨x0_4, x7_4, rfl, HA, HK4, HO_0, HB⟩ := hrel
           cases gk with
           | zero => exact absurd HA.out (by simp [zc.l4])
           | succ k4 =>
            have H := HA.out
            clear HA
            simp only [zc.l4] at H
            by_cases c49 : x7_4 < x5_1
            ·rw [if_pos c49] at H
             have c49b0 := dT c49
             clear c49
             replace H := bA H
             obtain ⟨t312, A50, H⟩ := H
             have H' := aS H
             clear H
             obtain ⟨Ao51, co51, eo51⟩ := Kd.xO HO_0.out
             subst eo51
             go_wp2_with (first | ((with_reducible refine zi (f := 182) rfl ?_); refine gl 71 Tryz.func182 #[.slice Ao51 x0_4.length co51, .int .u32 0] ?_; (with_reducible refine (zW.calls k4 _ _ x0_4 0 t312 _ ?side1 ?side2 A50.out).mono ?_); (case side1 => exact cA ((Kd.zM HO_0.out).2.2)); (case side2 => exact (Kd.zM HO_0.out).2.1); rintro e w52 ⟨v313, rfl, ho0, hb⟩; refine ⟨_, rfl, ?_⟩; replace HO_0 := aS (Kd.yy (by exact vA HO_0.out) (Kd.yf ho0) hb); have HO314 := aS (Kd.zL (Kd.z18 (M := fun k_ => (w.heap.size ≤ k_)) ho0 (zg (bl HB)) (fun k_ h_ => h_)) (zg (bl HB))); replace HB := hB_ HB hb; clear hb ho0))
             go_roundg k4
             case measure => have := HK1.out; have := HJ12.out; have := HK3.out; have := HK4.out; omega
             case rel => exact ⟨(t312), (wrap64 (x7_4 + 1)), rs, H', ⟨by have := HK1.out; have := HJ12.out; have := HK3.out; have := HK4.out; omega⟩, ⟨Kd.xi (Kd.R_V (by exact rA (Kd.zw HO314.out (fun _ hk => hk.1)))) (fun k_ hk => by first | exact ⟨(.inr (hk.1)), hk.2⟩ | exact (.inr (hk)))⟩, ⟨bl HB⟩⟩
            ·rw [if_neg c49] at H
             have c49b0 := dF c49
             clear c49
             replace H := yB H
             obtain ⟨y315, Ny315, H⟩ := H
             replace H := iN_ H
             obtain ⟨c53, H⟩ := H
             have LMc53 := aS c53
             clear c53
             replace H := yS H
             obtain ⟨y318, Ny318, H⟩ := H
             obtain rfl := sI H
             go_wp2_with (first | ((with_reducible refine zq (N := 72) rfl ?_); refine Kd.z1q (Kd.int .u32) _ 145 ?hg (N := 72) ?hd (xs := ([] : List Int)) (inner := []) (ok := fun _ => True) (okp := fun _ => True) ?hr ?hp (fun _ hk => hk) trivial (Below.refl _ _) (Nat.le_refl _) (by simp) ?_; (case hd => rfl); (case hg => rfl); (case hr => first | (go_simp; done) | (go_simp; rfl)); (case hp => exact (zQ.none _ _)); intro v316 w54 ho55 hb hg_ hnew_; clear hg_ hnew_; (first | rw [← Ny315.out] at ho55 | (simp only [Int.reduceToNat] at ho55; rw [← Ny315.out] at ho55)); replace HO_0 := aS (Kd.yy (by exact vA HO_0.out) (Kd.yf ho55) hb); have HO317 := aS (Kd.zL (Kd.z18 (M := fun k_ => (w.heap.size ≤ k_)) ho55 (zg (bl HB)) (fun k_ h_ => h_)) (zg (bl HB))); replace HB := hB_ HB hb; clear hb ho55; obtain ⟨Ao57, co57, eo57⟩ := Kd.xO HO_0.out; subst eo57) | ((with_reducible refine yV (b := .append) (xs := #[.tmp 72, .tmp 73]) rfl ?_); at_builtin; refine Kd.z1h (Kd.int .u32) (w0 := w) w.heap.size rfl (.tmp 72) (.tmp 73) 59 145 (.int .u32 0) 4 rfl Tryz.underlying59 xR rfl (by decide) (by omega) v316 y315 x0_4 _ _ _ (fun k_ => (w.heap.size ≤ k_)) (fun _ => False) rfl rfl ?aO ?aR (fun _ _ h => h) (fun _ h => h.elim) ?aF ?aB ?aS ?aL ?_; (case aR => exact cA ((Kd.zM HO_0.out).2.2)); (case aB => exact (bl HB)); (case aF => exact (fun k_ hk => (Nat.le_trans (zg (bl HB)) hk))); (case aO => exact (by exact rA (Kd.zw HO317.out (fun _ hk => hk.1)))); (case aS => exact (zg (bl HB))); (case aL => have := LMc53.out; omega); intro v319 w56 ho hb hg hat; rw [← Ny318.out] at ho; replace HO_0 := aS (Kd.z2v (ok := (fun k_ => ((P0_ k_ ∨ P1_ k_) ∨ w.heap.size ≤ k_))) (by exact vA HO_0.out) hg hat); replace HB := aS (hb); have HO320 := aS (ho); clear HO317; clear ho hb hg hat))
             go_ret
             exact ⟨_, re, by exact rA HO320.out, bl HB⟩
         rw [if_pos c27] at H
         have c27b0 := dT c27
         have c27b1 : decide (0 < x1_3.length) = true := dT (by omega)
         clear c27
         have H' := aS H
         clear H
         obtain ⟨Ao28, co28, eo28⟩ := Kd.xO HO_1.out
         subst eo28
         go_wp2
         go_loopg [0] k3 (fun kq v0 w' => ∃ (x0_4 : List Int), Aside0 (zc.l2 kq x0_4 x1_3 x5_1 = some r) ∧ Aside0 (kq ≤ k3) ∧ Aside0 (Kd.V (Kd.int .u32) 145 w' w.heap.size (fun k_ => ((P0_ k_ ∨ P1_ k_) ∨ w.heap.size ≤ k_)) v0 x0_4) ∧ Aside0 (Kd.V (Kd.int .u32) 145 w' w.heap.size (fun k_ => ((P0_ k_ ∨ P1_ k_) ∨ w.heap.size ≤ k_)) (.slice Ao28 x1_3.length co28) x1_3) ∧ Aside0 (Below w.heap.size w w'))
         case atStart => exact ⟨(x0_3), H', ⟨Nat.le_refl _⟩, ⟨by exact vA HO_0.out⟩, ⟨by exact vA HO_1.out⟩, ⟨bl HB⟩⟩
         case round =>
          clear H'
          obtain ⟨x0_4, HA, HK4, HO_0, HO_1, HB⟩ := hrel
          cases gk with
          | zero => exact absurd HA.out (by simp [zc.l2])
          | succ k4 =>
           have H := HA.out
           clear HA
           simp only [zc.l2] at H
           replace H := iN_ H
           obtain ⟨c29, H⟩ := H
           have c29b0 := dT c29
           have c29b1 : decide (0 < x0_4.length) = true := dT (by omega)
           clear c29
           by_cases c30 : (Int.tmod (rd x0_4 0) 2) = 0
           ·rw [if_pos c30] at H
            have c30b0 := bT c30
            have c30b1 := nF c30
            clear c30
            replace H := bA H
            obtain ⟨t298, A31, H⟩ := H
            have H' := aS H
            clear H
            obtain ⟨Ao32, co32, eo32⟩ := Kd.xO HO_0.out
            subst eo32
            have p297 : 0 ≤ (0 : Int) := (by omega)
            have q297 : 0 < (x0_4.length : Int) := oa
            obtain ⟨ad297, e297, hx297_0⟩ := Kd.zT (Kd.zM HO_0.out).2.2 0 p297 q297
            cases e297
            have qi297 : (0 < x0_4.length) = True := eq_true (by omega)
            (try rw [show ((0 : Int)).toNat = 0 from rfl] at hx297_0)
            (try rw [Addr.add_zero'] at hx297_0)
            replace p297 := eq_true p297
            replace q297 := eq_true q297
            go_wp2_with (first | ((with_reducible refine zi (f := 179) rfl ?_); refine gl 47 Tryz.func179 #[.slice (some ad297) x0_4.length co32] ?_; (with_reducible refine (zH.calls k4 _ _ x0_4 t298 _ ?side1 ?side2 A31.out).mono ?_); (case side1 => exact cA ((Kd.zM HO_0.out).2.2)); (case side2 => exact (Kd.zM HO_0.out).2.1); rintro e w33 ⟨v299, rfl, ho0, hb⟩; refine ⟨_, rfl, ?_⟩; replace HO_0 := aS (Kd.yy (by exact vA HO_0.out) (Kd.yf ho0) hb); replace HO_1 := aS (Kd.yy (by exact vA HO_1.out) (Kd.yf ho0) hb); have HO300 := aS (Kd.zL (Kd.z18 (M := fun k_ => (w.heap.size ≤ k_)) ho0 (zg (bl HB)) (fun k_ h_ => h_)) (zg (bl HB))); replace HB := hB_ HB hb; clear hb ho0))
            go_roundg k4
            case measure => have := HK1.out; have := HJ12.out; have := HK3.out; have := HK4.out; omega
            case rel => exact ⟨(t298), H', ⟨by have := HK1.out; have := HJ12.out; have := HK3.out; have := HK4.out; omega⟩, ⟨Kd.xi (Kd.R_V (by exact rA (Kd.zw HO300.out (fun _ hk => hk.1)))) (fun k_ hk => by first | exact ⟨(.inr (hk.1)), hk.2⟩ | exact (.inr (hk)))⟩, ⟨by exact vA (Kd.xi HO_1.out (fun _ hk => hk.1))⟩, ⟨bl HB⟩⟩
           rw [if_neg c30] at H
           have c30b0 := bF c30
           have c30b1 := nT c30
           have H' := aS H
           clear H
           obtain ⟨Ao34, co34, eo34⟩ := Kd.xO HO_0.out
           subst eo34
           have p297 : 0 ≤ (0 : Int) := (by omega)
           have q297 : 0 < (x0_4.length : Int) := oa
           obtain ⟨ad297, e297, hx297_0⟩ := Kd.zT (Kd.zM HO_0.out).2.2 0 p297 q297
           cases e297
           have qi297 : (0 < x0_4.length) = True := eq_true (by omega)
           (try rw [show ((0 : Int)).toNat = 0 from rfl] at hx297_0)
           (try rw [Addr.add_zero'] at hx297_0)
           replace p297 := eq_true p297
           replace q297 := eq_true q297
           go_wp2
           go_loopg [1] k4 (fun kq v1 w' => ∃ (x1_5 : List Int), Aside0 (zc.l3 kq x0_4 x1_5 x5_1 = some r) ∧ Aside0 (kq ≤ k4) ∧ Aside0 (Kd.V (Kd.int .u32) 145 w' w.heap.size (fun k_ => ((P0_ k_ ∨ P1_ k_) ∨ w.heap.size ≤ k_)) (.slice (some ad297) x0_4.length co34) x0_4) ∧ Aside0 (Kd.V (Kd.int .u32) 145 w' w.heap.size (fun k_ => ((P0_ k_ ∨ P1_ k_) ∨ w.heap.size ≤ k_)) v1 x1_5) ∧ Aside0 (Below w.heap.size w w'))
           case atStart => exact ⟨(x1_3), H', ⟨Nat.le_refl _⟩, ⟨by exact vA HO_0.out⟩, ⟨by exact vA HO_1.out⟩, ⟨bl HB⟩⟩
           case round =>
            clear H'
            obtain ⟨x1_5, HA, HK5, HO_0, HO_1, HB⟩ := hrel
            cases gk with
            | zero => exact absurd HA.out (by simp [zc.l3])
            | succ k5 =>
             have H := HA.out
             clear HA
             simp only [zc.l3] at H
             replace H := iN_ H
             obtain ⟨c35, H⟩ := H
             have c35b0 := dT c35
             have c35b1 : decide (0 < x1_5.length) = true := dT (by omega)
             clear c35
             by_cases c36 : (Int.tmod (rd x1_5 0) 2) = 0
             ·rw [if_pos c36] at H
              have c36b0 := bT c36
              have c36b1 := nF c36
              clear c36
              replace H := bA H
              obtain ⟨t302, A37, H⟩ := H
              have H' := aS H
              clear H
              obtain ⟨Ao38, co38, eo38⟩ := Kd.xO HO_1.out
              subst eo38
              have p301 : 0 ≤ (0 : Int) := (by omega)
              have q301 : 0 < (x1_5.length : Int) := oa
              obtain ⟨ad301, e301, hx301_0⟩ := Kd.zT (Kd.zM HO_1.out).2.2 0 p301 q301
              cases e301
              have qi301 : (0 < x1_5.length) = True := eq_true (by omega)
              (try rw [show ((0 : Int)).toNat = 0 from rfl] at hx301_0)
              (try rw [Addr.add_zero'] at hx301_0)
              replace p301 := eq_true p301
              replace q301 := eq_true q301
              go_wp2_with (first | ((with_reducible refine zi (f := 179) rfl ?_); refine gl 54 Tryz.func179 #[.slice (some ad301) x1_5.length co38] ?_; (with_reducible refine (zH.calls k5 _ _ x1_5 t302 _ ?side1 ?side2 A37.out).mono ?_); (case side1 => exact cA ((Kd.zM HO_1.out).2.2)); (case side2 => exact (Kd.zM HO_1.out).2.1); rintro e w39 ⟨v303, rfl, ho0, hb⟩; refine ⟨_, rfl, ?_⟩; replace HO_0 := aS (Kd.yy (by exact vA HO_0.out) (Kd.yf ho0) hb); replace HO_1 := aS (Kd.yy (by exact vA HO_1.out) (Kd.yf ho0) hb); have HO304 := aS (Kd.zL (Kd.z18 (M := fun k_ => (w.heap.size ≤ k_)) ho0 (zg (bl HB)) (fun k_ h_ => h_)) (zg (bl HB))); replace HB := hB_ HB hb; clear hb ho0))
              go_roundg k5
              case measure => have := HK1.out; have := HJ12.out; have := HK3.out; have := HK4.out; have := HK5.out; omega
              case rel => exact ⟨(t302), H', ⟨by have := HK1.out; have := HJ12.out; have := HK3.out; have := HK4.out; have := HK5.out; omega⟩, ⟨by exact vA (Kd.xi HO_0.out (fun _ hk => hk.1))⟩, ⟨Kd.xi (Kd.R_V (by exact rA (Kd.zw HO304.out (fun _ hk => hk.1)))) (fun k_ hk => by first | exact ⟨(.inr (hk.1)), hk.2⟩ | exact (.inr (hk)))⟩, ⟨bl HB⟩⟩
             rw [if_neg c36] at H
             have c36b0 := bF c36
             have c36b1 := nT c36
             replace H := bA H
             obtain ⟨t305, A40, H⟩ := H
             by_cases c41 : t305 > 0; rotate_left
             ·rw [if_neg c41] at H
              have c41b0 := dF c41
              clear c41
              replace H := bA H
              obtain ⟨t309, A45, H⟩ := H
              have H' := aS H
              clear H
              obtain ⟨Ao46, co46, eo46⟩ := Kd.xO HO_1.out
              subst eo46
              have p301 : 0 ≤ (0 : Int) := (by omega)
              have q301 : 0 < (x1_5.length : Int) := oa
              obtain ⟨ad301, e301, hx301_0⟩ := Kd.zT (Kd.zM HO_1.out).2.2 0 p301 q301
              cases e301
              have qi301 : (0 < x1_5.length) = True := eq_true (by omega)
              (try rw [show ((0 : Int)).toNat = 0 from rfl] at hx301_0)
              (try rw [Addr.add_zero'] at hx301_0)
              replace p301 := eq_true p301
              replace q301 := eq_true q301
              go_wp2_with (first | ((with_reducible refine zi (f := 180) rfl ?_); refine gl 57 Tryz.func180 #[.slice (some ad297) x0_4.length co34, .slice (some ad301) x1_5.length co46] ?_; (with_reducible refine (zF.calls k5 _ _ x0_4 _ _ x1_5 t305 _ ?side1 ?side2 ?side3 ?side4 A40.out).mono ?_); (case side1 => exact cA ((Kd.zM HO_0.out).2.2)); (case side2 => exact (Kd.zM HO_0.out).2.1); (case side3 => exact cA ((Kd.zM HO_1.out).2.2)); (case side4 => exact (Kd.zM HO_1.out).2.1); rintro e w' ⟨rfl, ⟨nd, rfl⟩⟩; refine ⟨_, rfl, ?_⟩) | ((with_reducible refine zi (f := 181) rfl ?_); refine gl 64 Tryz.func181 #[.slice (some ad301) x1_5.length co46, .slice (some ad297) x0_4.length co34] ?_; (with_reducible refine (zP.calls k5 _ _ x1_5 _ _ x0_4 t309 _ ?side1 ?side2 ?side3 ?side4 A45.out).mono ?_); (case side1 => exact cA ((Kd.zM HO_1.out).2.2)); (case side2 => exact (Kd.zM HO_1.out).2.1); (case side3 => exact cA ((Kd.zM HO_0.out).2.2)); (case side4 => exact (Kd.zM HO_0.out).2.1); rintro e w47 ⟨v310, rfl, ho0, hb⟩; refine ⟨_, rfl, ?_⟩; replace HO_0 := aS (Kd.yy (by exact vA HO_0.out) (Kd.yf ho0) hb); replace HO_1 := aS (Kd.yy (by exact vA HO_1.out) (Kd.yf ho0) hb); have HO311 := aS (Kd.zL (Kd.z18 (M := fun k_ => (w.heap.size ≤ k_)) ho0 (zg (bl HB)) (fun k_ h_ => h_)) (zg (bl HB))); replace HB := hB_ HB hb; clear hb ho0))
              go_roundg k5
              case measure => have := HK1.out; have := HJ12.out; have := HK3.out; have := HK4.out; have := HK5.out; omega
              case rel => exact ⟨(x0_4), (t309), H', ⟨by have := HK1.out; have := HJ12.out; have := HK3.out; have := HK4.out; have := HK5.out; omega⟩, ⟨by exact vA (Kd.xi HO_0.out (fun _ hk => hk.1))⟩, ⟨Kd.xi (Kd.R_V (by exact rA (Kd.zw HO311.out (fun _ hk => hk.1)))) (fun k_ hk => by first | exact ⟨(.inr (hk.1)), hk.2⟩ | exact (.inr (hk)))⟩, ⟨bl HB⟩⟩
             rw [if_pos c41] at H
             have c41b0 := dT c41
             clear c41
             replace H := bA H
             obtain ⟨t306, A42, H⟩ := H
             have H' := aS H
             clear H
             obtain ⟨Ao43, co43, eo43⟩ := Kd.xO HO_1.out
             subst eo43
             have p301 : 0 ≤ (0 : Int) := (by omega)
             have q301 : 0 < (x1_5.length : Int) := oa
             obtain ⟨ad301, e301, hx301_0⟩ := Kd.zT (Kd.zM HO_1.out).2.2 0 p301 q301
             cases e301
             have qi301 : (0 < x1_5.length) = True := eq_true (by omega)
             (try rw [show ((0 : Int)).toNat = 0 from rfl] at hx301_0)
             (try rw [Addr.add_zero'] at hx301_0)
             replace p301 := eq_true p301
             replace q301 := eq_true q301
             go_wp2_with (first | ((with_reducible refine zi (f := 180) rfl ?_); refine gl 57 Tryz.func180 #[.slice (some ad297) x0_4.length co34, .slice (some ad301) x1_5.length co43] ?_; (with_reducible refine (zF.calls k5 _ _ x0_4 _ _ x1_5 t305 _ ?side1 ?side2 ?side3 ?side4 A40.out).mono ?_); (case side1 => exact cA ((Kd.zM HO_0.out).2.2)); (case side2 => exact (Kd.zM HO_0.out).2.1); (case side3 => exact cA ((Kd.zM HO_1.out).2.2)); (case side4 => exact (Kd.zM HO_1.out).2.1); rintro e w' ⟨rfl, ⟨nd, rfl⟩⟩; refine ⟨_, rfl, ?_⟩) | ((with_reducible refine zi (f := 181) rfl ?_); refine gl 64 Tryz.func181 #[.slice (some ad297) x0_4.length co34, .slice (some ad301) x1_5.length co43] ?_; (with_reducible refine (zP.calls k5 _ _ x0_4 _ _ x1_5 t306 _ ?side1 ?side2 ?side3 ?side4 A42.out).mono ?_); (case side1 => exact cA ((Kd.zM HO_0.out).2.2)); (case side2 => exact (Kd.zM HO_0.out).2.1); (case side3 => exact cA ((Kd.zM HO_1.out).2.2)); (case side4 => exact (Kd.zM HO_1.out).2.1); rintro e w44 ⟨v307, rfl, ho0, hb⟩; refine ⟨_, rfl, ?_⟩; replace HO_0 := aS (Kd.yy (by exact vA HO_0.out) (Kd.yf ho0) hb); replace HO_1 := aS (Kd.yy (by exact vA HO_1.out) (Kd.yf ho0) hb); have HO308 := aS (Kd.zL (Kd.z18 (M := fun k_ => (w.heap.size ≤ k_)) ho0 (zg (bl HB)) (fun k_ h_ => h_)) (zg (bl HB))); replace HB := hB_ HB hb; clear hb ho0))
             go_roundg k5
             case measure => have := HK1.out; have := HJ12.out; have := HK3.out; have := HK4.out; have := HK5.out; omega
             case rel => exact ⟨(x1_5), (t306), H', ⟨by have := HK1.out; have := HJ12.out; have := HK3.out; have := HK4.out; have := HK5.out; omega⟩, ⟨by exact vA (Kd.xi HO_1.out (fun _ hk => hk.1))⟩, ⟨Kd.xi (Kd.R_V (by exact rA (Kd.zw HO308.out (fun _ hk => hk.1)))) (fun k_ hk => by first | exact ⟨(.inr (hk.1)), hk.2⟩ | exact (.inr (hk)))⟩, ⟨bl HB⟩⟩
 rotate_left 1
 all_goals (go_enter Tryz.func144, Tryz.ntmps144)
 all_goals (go_wp2_with (first | ((with_reducible refine zq (N := 11) rfl ?_); refine Kd.z1q (Kd.int .u32) _ 145 ?hg (N := 11) ?hd (xs := ([] : List Int)) (inner := []) (ok := fun _ => True) (okp := fun _ => True) ?hr ?hp (fun _ hk => hk) trivial (Below.refl _ _) (Nat.le_refl _) (by simp) ?_; (case hd => rfl); (case hg => rfl); (case hr => first | (go_simp; done) | (go_simp; rfl)); (case hp => exact (zQ.none _ _)); intro v278 wq1 ho6 hb hg_ hnew_; clear hg_ hnew_; (first | rw [← Ny277.out] at ho6 | (simp only [Int.reduceToNat] at ho6; rw [← Ny277.out] at ho6)); replace HO0 := aS (Kd.yy (by exact vA HO0.out) (Kd.yf ho6) hb); replace HO1 := aS (Kd.yy (by exact vA HO1.out) (Kd.yf ho6) hb); have HO279 := aS (Kd.zL (Kd.z18 (M := fun k_ => (w.heap.size ≤ k_)) ho6 (zg (bl HB)) (fun k_ h_ => h_)) (zg (bl HB))); replace HB := hB_ HB hb; clear hb ho6) | ((with_reducible refine yV (b := .append) (xs := #[.tmp 11, .tmp 12]) rfl ?_); at_builtin; refine Kd.z1h (Kd.int .u32) (w0 := w) w.heap.size rfl (.tmp 11) (.tmp 12) 59 145 (.int .u32 0) 4 rfl Tryz.underlying59 xR rfl (by decide) (by omega) v278 y277 l1 _ _ _ (fun k_ => (w.heap.size ≤ k_)) (fun _ => False) rfl rfl ?aO ?aR (fun _ _ h => h) (fun _ h => h.elim) ?aF ?aB ?aS ?aL ?_; (case aR => exact cA ((Kd.zM HO1.out).2.2)); (case aB => exact (bl HB)); (case aF => exact (fun k_ hk => (Nat.le_trans (zg (bl HB)) hk))); (case aO => exact (by exact rA (Kd.zw HO279.out (fun _ hk => hk.1)))); (case aS => exact (zg (bl HB))); (case aL => have := LMc4.out; omega); intro v281 wq2 ho hb hg hat; rw [← Ny280.out] at ho; replace HO0 := aS (Kd.z2v (ok := (fun k_ => ((P0_ k_ ∨ P1_ k_) ∨ w.heap.size ≤ k_))) (by exact vA HO0.out) hg hat); replace HO1 := aS (Kd.z2v (ok := (fun k_ => ((P0_ k_ ∨ P1_ k_) ∨ w.heap.size ≤ k_))) (by exact vA HO1.out) hg hat); replace HB := aS (hb); have HO282 := aS (ho); clear HO279; clear ho hb hg hat) | ((with_reducible refine zq (N := 17) rfl ?_); refine Kd.z1q (Kd.int .u32) _ 145 ?hg (N := 17) ?hd (xs := ([] : List Int)) (inner := []) (ok := fun _ => True) (okp := fun _ => True) ?hr ?hp (fun _ hk => hk) trivial (Below.refl _ _) (Nat.le_refl _) (by simp) ?_; (case hd => rfl); (case hg => rfl); (case hr => first | (go_simp; done) | (go_simp; rfl)); (case hp => exact (zQ.none _ _)); intro v284 wq1 ho11 hb hg_ hnew_; clear hg_ hnew_; (first | rw [← Ny283.out] at ho11 | (simp only [Int.reduceToNat] at ho11; rw [← Ny283.out] at ho11)); replace HO0 := aS (Kd.yy (by exact vA HO0.out) (Kd.yf ho11) hb); replace HO1 := aS (Kd.yy (by exact vA HO1.out) (Kd.yf ho11) hb); have HO285 := aS (Kd.zL (Kd.z18 (M := fun k_ => (w.heap.size ≤ k_)) ho11 (zg (bl HB)) (fun k_ h_ => h_)) (zg (bl HB))); replace HB := hB_ HB hb; clear hb ho11) | ((with_reducible refine yV (b := .append) (xs := #[.tmp 17, .tmp 18]) rfl ?_); at_builtin; refine Kd.z1h (Kd.int .u32) (w0 := w) w.heap.size rfl (.tmp 17) (.tmp 18) 59 145 (.int .u32 0) 4 rfl Tryz.underlying59 xR rfl (by decide) (by omega) v284 y283 l0 _ _ _ (fun k_ => (w.heap.size ≤ k_)) (fun _ => False) rfl rfl ?aO ?aR (fun _ _ h => h) (fun _ h => h.elim) ?aF ?aB ?aS ?aL ?_; (case aR => exact cA ((Kd.zM HO0.out).2.2)); (case aB => exact (bl HB)); (case aF => exact (fun k_ hk => (Nat.le_trans (zg (bl HB)) hk))); (case aO => exact (by exact rA (Kd.zw HO285.out (fun _ hk => hk.1)))); (case aS => exact (zg (bl HB))); (case aL => have := LMc9.out; omega); intro v287 wq2 ho hb hg hat; rw [← Ny286.out] at ho; replace HO0 := aS (Kd.z2v (ok := (fun k_ => ((P0_ k_ ∨ P1_ k_) ∨ w.heap.size ≤ k_))) (by exact vA HO0.out) hg hat); replace HO1 := aS (Kd.z2v (ok := (fun k_ => ((P0_ k_ ∨ P1_ k_) ∨ w.heap.size ≤ k_))) (by exact vA HO1.out) hg hat); replace HB := aS (hb); have HO288 := aS (ho); clear HO285; clear ho hb hg hat)))
 ·go_ret
  exact ⟨_, re, by exact rA HO282.out, bl HB⟩
 ·go_ret
  exact ⟨_, re, by exact rA HO288.out, bl HB⟩
end
end
theorem z0z {P : Program} (w : World) (t e : TypeId) (a : Option Addr) (l c : Nat) (h : P.underlying t = some (.slice e)) : (binOp .eql t (.slice a l c) (.slice none 0 0)).run P w = .ok (.bool a.isNone) w := by
 simp only [binOp]
 simp [run_equal_slice_nil w t e a l c h]
theorem z7t (c : Nat) (w : World) : Calls Tryz.prog 59 #[.slice none 0 c] w fun e w' => e = .returned (.slice none 0 0) ∧ Below w.heap.size w w' := by
 have hu30 := Tryz.underlying30
 have he := z0z (P := Tryz.prog) w 30 5 none 0 c hu30
 go_enter Tryz.func59, Tryz.ntmps59
 go_wp2
 refine bodyPost_ret (by simp [results, Tryz.results59, go_sem]) rfl ⟨rfl, Below.refl _ _⟩
theorem z7u (ad : Addr) (c : Nat) (l : List Int) (w : World) (hr : Kd.C (Kd.int .u8) w (some ad) l.length l) (hl : l.length ≤ 4000000) : Calls Tryz.prog 59 #[.slice (some ad) l.length c] w fun e w' => ∃ v, e = .returned v ∧ Kd.R (Kd.int .u8) 5 w' w.heap.size (fun _ => True) v l ∧ Below w.heap.size w w' := by
 have hu30 := Tryz.underlying30
 obtain ⟨i0, hi, hz0, hz1, hz2⟩ := info_parts z8z
 have he := z0z (P := Tryz.prog) w 30 5 (some ad) l.length c hu30
 go_enter Tryz.func59, Tryz.ntmps59
 go_wp2_with (at_builtin; refine wpList_append_own _ rfl _ _ 30 rfl w.heap.size 5 i0 (.int .u8 0) 1 1 Tryz.underlying30 hi hz0 hz1 hz2 rfl (by decide) (.slice (some ⟨w.heap.size, 0, none⟩) 0 0) 0 [] rfl ?c0 ad l.length c (l.map (Value.int .u8)) rfl (by simp) ?c1 ?c2 ?c3 ?c4 ?c5 ?_)
 case c0 => exact ⟨rfl, .inr ⟨w.heap.size, 0, #[], rfl, Nat.le_refl _, heap_alloc_new w _, Nat.le_refl _, by decide, rfl, rfl⟩⟩
 case c1 =>
  intro j u hj
  have hjl : j < l.length := by
   rcases Nat.lt_or_ge j l.length with h' | h'
   ·exact h'
   ·rw [List.getElem?_eq_none (by rw [List.length_map]; exact h')] at hj
    cases hj
  obtain ⟨ad', he', hc⟩ := (Kd.xv (enc := Value.int .u8) (d := (0 : Int)) (h1 := fun _ => rfl) hr).2.2 (by omega)
  injection he' with he'
  subst he'
  rw [List.getElem?_map, List.getElem?_eq_getElem hjl] at hj
  simp only [Option.map_some, Option.some.injEq] at hj
  subst hj
  refine ze (zl (Below.refl _ _) _) ?_
  rw [hc j (by omega)]
  simp [List.getD_eq_getElem?_getD, List.getElem?_eq_getElem hjl]
 case c2 =>
  intro u hu
  obtain ⟨x, _, rfl⟩ := List.mem_map.1 hu
  rfl
 case c3 => unfold maxLen; omega
 case c4 => omega
 case c5 => exact (zl (Below.refl w.heap.size w) _).size
 intro v1 w1 hown hg _
 go_wp2
 refine bodyPost_ret (by simp [results, Tryz.results59, go_sem]) rfl ⟨v1, rfl, Kd.z2r (enc := Value.int .u8) (by simpa [z1B] using hown) (fun _ _ => trivial), (zl (Below.refl w.heap.size w) _).grown hg (zl (Below.refl w.heap.size w) _).size (fun k hk => by simp [Value.ownBlock] at hk; omega)⟩
theorem z6E (A : Option Addr) (c : Nat) (l : List Int) (w : World) (hr : Kd.C (Kd.int .u8) w A l.length l) (hl : l.length ≤ 4000000) : Calls Tryz.prog 59 #[.slice A l.length c] w fun e w' => ∃ v, e = .returned v ∧ Kd.R (Kd.int .u8) 5 w' w.heap.size (fun _ => True) v l ∧ Below w.heap.size w w' := by
 cases A with
 | some ad => exact z7u ad c l w hr hl
 | none =>
  have h0 : l = [] := by
   cases l with
   | nil => rfl
   | cons x xs =>
    obtain ⟨ad, h, _⟩ := hr.2.2 (by simp)
    cases h
  subst h0
  refine (z7t c w).mono ?_
  rintro e w' ⟨rfl, hb⟩
  exact ⟨_, rfl, Kd.z0l _ _ _ _ _, hb⟩
theorem z6C (c : Nat) (w : World) : Calls Tryz.prog 189 #[.slice none 0 c] w fun e w' => e = .returned (.slice none 0 0) ∧ Below w.heap.size w w' := by
 have hu59 := Tryz.underlying59
 have he := z0z (P := Tryz.prog) w 59 145 none 0 c hu59
 go_enter Tryz.func189, Tryz.ntmps189
 go_wp2
 refine bodyPost_ret (by simp [results, Tryz.results189, go_sem]) rfl ⟨rfl, Below.refl _ _⟩
theorem z6D (ad : Addr) (c : Nat) (l : List Int) (w : World) (hr : Kd.C (Kd.int .u32) w (some ad) l.length l) (hl : l.length ≤ 4000000) : Calls Tryz.prog 189 #[.slice (some ad) l.length c] w fun e w' => ∃ v, e = .returned v ∧ Kd.R (Kd.int .u32) 145 w' w.heap.size (fun _ => True) v l ∧ Below w.heap.size w w' := by
 have hu59 := Tryz.underlying59
 obtain ⟨i0, hi, hz0, hz1, hz2⟩ := info_parts xR
 have he := z0z (P := Tryz.prog) w 59 145 (some ad) l.length c hu59
 go_enter Tryz.func189, Tryz.ntmps189
 go_wp2_with (at_builtin; refine wpList_append_own _ rfl _ _ 59 rfl w.heap.size 145 i0 (.int .u32 0) 1 4 Tryz.underlying59 hi hz0 hz1 hz2 rfl (by decide) (.slice (some ⟨w.heap.size, 0, none⟩) 0 0) 0 [] rfl ?c0 ad l.length c (l.map (Value.int .u32)) rfl (by simp) ?c1 ?c2 ?c3 ?c4 ?c5 ?_)
 case c0 => exact ⟨rfl, .inr ⟨w.heap.size, 0, #[], rfl, Nat.le_refl _, heap_alloc_new w _, Nat.le_refl _, by decide, rfl, rfl⟩⟩
 case c1 =>
  intro j u hj
  have hjl : j < l.length := by
   rcases Nat.lt_or_ge j l.length with h' | h'
   ·exact h'
   ·rw [List.getElem?_eq_none (by rw [List.length_map]; exact h')] at hj
    cases hj
  obtain ⟨ad', he', hc⟩ := (Kd.xv (enc := Value.int .u32) (d := (0 : Int)) (h1 := fun _ => rfl) hr).2.2 (by omega)
  injection he' with he'
  subst he'
  rw [List.getElem?_map, List.getElem?_eq_getElem hjl] at hj
  simp only [Option.map_some, Option.some.injEq] at hj
  subst hj
  refine ze (zl (Below.refl _ _) _) ?_
  rw [hc j (by omega)]
  simp [List.getD_eq_getElem?_getD, List.getElem?_eq_getElem hjl]
 case c2 =>
  intro u hu
  obtain ⟨x, _, rfl⟩ := List.mem_map.1 hu
  rfl
 case c3 => unfold maxLen; omega
 case c4 => omega
 case c5 => exact (zl (Below.refl w.heap.size w) _).size
 intro v1 w1 hown hg _
 go_wp2
 refine bodyPost_ret (by simp [results, Tryz.results189, go_sem]) rfl ⟨v1, rfl, Kd.z2r (enc := Value.int .u32) (by simpa [z1B] using hown) (fun _ _ => trivial), (zl (Below.refl w.heap.size w) _).grown hg (zl (Below.refl w.heap.size w) _).size (fun k hk => by simp [Value.ownBlock] at hk; omega)⟩
theorem z3v (A : Option Addr) (c : Nat) (l : List Int) (w : World) (hr : Kd.C (Kd.int .u32) w A l.length l) (hl : l.length ≤ 4000000) : Calls Tryz.prog 189 #[.slice A l.length c] w fun e w' => ∃ v, e = .returned v ∧ Kd.R (Kd.int .u32) 145 w' w.heap.size (fun _ => True) v l ∧ Below w.heap.size w w' := by
 cases A with
 | some ad => exact z6D ad c l w hr hl
 | none =>
  have h0 : l = [] := by
   cases l with
   | nil => rfl
   | cons x xs =>
    obtain ⟨ad, h, _⟩ := hr.2.2 (by simp)
    cases h
  subst h0
  refine (z6C c w).mono ?_
  rintro e w' ⟨rfl, hb⟩
  exact ⟨_, rfl, Kd.z0l _ _ _ _ _, hb⟩
theorem zdJ {x y u v : List Int} {m : Nat} {e f : Int} (hx : yG x) (hy : yG y) (hyl : y.length = m + 2) (hef : e * f = 4294967296) (he1 : 1 ≤ e) (hf2 : 2 ≤ f)
 (h1 : 2147483648 ≤ y.getD (m + 1) 0 * e) (h2 : y.getD (m + 1) 0 * e < 4294967296) (hu : dOk u) (hul : u.length = x.length + 1) (huv : dv u = dv x * e) (hv : yG v) (hvv : dv v = dv y * e)
 (hxy : y.length ≤ x.length) :
 v.length = m + 2 ∧ 2147483648 ≤ v.getD (m + 1) 0 ∧ dv (u.drop (x.length - (m + 1))) < dv v ∧ x.length - (m + 1) + (m + 2) ≤ u.length := by
 have hy1 := z0E y (m + 1) (by omega)
 rw [drop_one (by omega), List.drop_of_length_le (by omega)] at hy1
 simp only [dv, Int.mul_zero, Int.add_zero] at hy1
 have hyb := yc (y.take (m + 1)) (xc hy.1 _)
 rw [List.length_take, Nat.min_eq_left (by omega)] at hyb
 have hp := z0N (m + 1)
 have hyt := (z0b hy (n := m + 1) (by omega)).2
 generalize y.getD (m + 1) 0 = t at *
 have htf : t + 1 ≤ f := by
  rcases Int.lt_or_le t f with h | h
  ·omega
  ·have := Int.mul_le_mul_of_nonneg_left h (show 0 ≤ e by omega)
   have e1 : e * t = t * e := Int.mul_comm _ _
   omega
 have hte := Int.mul_le_mul_of_nonneg_left htf (show 0 ≤ e by omega)
 have e2 : e * (t + 1) = t * e + e := by grind
 have a1 : pB (m + 1) * (t * e) ≤ dv v := by
  have := Int.mul_nonneg hyb.1 (show 0 ≤ e by omega)
  have e3 : dv y * e = dv (y.take (m + 1)) * e + pB (m + 1) * (t * e) := by rw [hy1]; grind
  omega
 have a2 : dv v < pB (m + 2) := by
  have h3 : dv y + 1 ≤ pB (m + 1) * (t + 1) := by
   have : pB (m + 1) * (t + 1) = pB (m + 1) * t + pB (m + 1) := by grind
   omega
  have h4 := Int.mul_le_mul_of_nonneg_right h3 (show 0 ≤ e by omega)
  have h5 : (dv y + 1) * e = dv y * e + e := by grind
  have h6 : pB (m + 1) * (t + 1) * e = pB (m + 1) * (t * e + e) := by grind
  have h7 := Int.mul_le_mul_of_nonneg_left (show t * e + e ≤ 4294967296 by omega) (Int.le_of_lt hp)
  have h8 : pB (m + 2) = pB (m + 1) * 4294967296 := by show 4294967296 * pB (m + 1) = _; rw [Int.mul_comm]
  omega
 have a3 : pB (m + 1) * 2147483648 ≤ pB (m + 1) * (t * e) := Int.mul_le_mul_of_nonneg_left h1 (Int.le_of_lt hp)
 have hvl : v.length = m + 2 := z6G hv (n := m + 1) (by omega) a2
 refine ⟨hvl, ?_, ?_, by omega⟩
 ·have b1 := z0E v (m + 1) (by omega)
  rw [drop_one (by omega), List.drop_of_length_le (by omega)] at b1
  simp only [dv, Int.mul_zero, Int.add_zero] at b1
  have b2 := yc (v.take (m + 1)) (xc hv.1 _)
  rw [List.length_take, Nat.min_eq_left (by omega)] at b2
  rcases Int.lt_or_le (v.getD (m + 1) 0) 2147483648 with h | h
  ·have b3 := Int.mul_le_mul_of_nonneg_left (show v.getD (m + 1) 0 + 1 ≤ 2147483648 by omega) (Int.le_of_lt hp)
   have b4 : pB (m + 1) * (v.getD (m + 1) 0 + 1) = pB (m + 1) * v.getD (m + 1) 0 + pB (m + 1) := by grind
   omega
  ·exact h
 ·have c1 := z0E u (x.length - (m + 1)) (by omega)
  have c2 := (yc (u.take (x.length - (m + 1))) (xc hu _)).1
  have c3 := (yc x hx.1).2
  have c4 : pB x.length = pB (x.length - (m + 1)) * pB (m + 1) := by rw [← zaM]; congr 1; omega
  have hq := z0N (x.length - (m + 1))
  generalize pB (x.length - (m + 1)) = q at *
  rcases Int.lt_or_le (dv (u.drop (x.length - (m + 1)))) (dv v) with h | h
  ·exact h
  ·have d1 := Int.mul_le_mul_of_nonneg_left h (Int.le_of_lt hq)
   have d2 := Int.mul_le_mul_of_nonneg_left a1 (Int.le_of_lt hq)
   have d3 := Int.mul_lt_mul_of_pos_right c3 (show 0 < e by omega)
   rw [c4] at d3
   have d4 := Int.mul_le_mul_of_nonneg_left (show 1 * e ≤ t * e from Int.mul_le_mul_of_nonneg_right hyt (by omega)) (show 0 ≤ q * pB (m + 1) from Int.mul_nonneg (Int.le_of_lt hq) (Int.le_of_lt hp))
   have d5 : q * (pB (m + 1) * (t * e)) = q * pB (m + 1) * (t * e) := by grind
   have d6 : q * pB (m + 1) * (1 * e) = q * pB (m + 1) * e := by grind
   omega
theorem z7T {X Y E L e k : Int} (he1 : 1 ≤ e) (hL : L = X * e - k * (Y * e)) (h0 : 0 ≤ L) (h1 : L < Y * e) : L / e = X % Y := by
 have h2 : L = (X - k * Y) * e := by rw [hL]; grind
 have h3 : L / e = X - k * Y := by rw [h2, Int.mul_ediv_cancel _ (by omega)]
 have h4 : 0 ≤ X - k * Y := by rw [← h3]; exact Int.ediv_nonneg h0 (by omega)
 have h5 : X - k * Y < Y := by rw [← h3]; exact Int.ediv_lt_of_lt_mul (by omega) h1
 have h6 : X = (X - k * Y) + Y * k := by grind
 rw [h3]
 conv => rhs; rw [h6]
 rw [Int.add_mul_emod_self_left, Int.emod_eq_of_lt h4 h5]
end Go.Proofs.QP

