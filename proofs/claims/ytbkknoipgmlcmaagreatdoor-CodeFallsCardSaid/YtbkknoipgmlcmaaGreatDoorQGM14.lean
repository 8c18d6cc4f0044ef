import Derived.Test.YtbkknoipgmlcmaaGreatDoorQGM13
set_option linter.all false
set_option maxHeartbeats 8000000
set_option maxRecDepth 100000
namespace Go.Proofs.QP
open Go.RowKit Go.Proofs.PW Go.Proofs.PL Go.Proofs.PM Go.Proofs.FX
theorem zbU {x : List Int} (hx : dOk x) : Int.tmod (rd x 0) 2 = ((nv x % 2 : Nat) : Int) := by
 have h := z0e hx
 have hg := zX hx 0
 have e : rd x 0 = x.getD 0 0 := rfl
 rw [e, Int.tmod_eq_emod_of_nonneg hg.1]
 have h2 : dv x % 2 = x.getD 0 0 % 2 := by
  cases x with
  | nil => rfl
  | cons d l =>
   show (d + 4294967296 * dv l) % 2 = d % 2
   omega
 rw [← h2, ← h]
 omega
theorem z2E {x : List Int} (h : 0 < nv x) : 0 < (x.length : Int) := by
 cases x with
 | nil => exact absurd h (by decide)
 | cons d l => simp only [List.length_cons]; omega
theorem zaG {x y : List Int} (hx : yG x) (hy : yG y) (h : nv x = nv y) : x = y := z3x hx hy (by rw [← z0e hx.1, ← z0e hy.1, h])
theorem z8O {M : Nat} (HL : ∀ l, yG l → nv l < M → l.length ≤ 100000) {t : Nat} (ht : t ≤ 100000) {R : List Int} (hR : yG R) (hRM : nv R < M) : ∀ (n i : Nat) (x : List Int), yG x → nv x * 2 ^ n = nv R → i + n = t → Ev (fun k => zc.l4 k x (t : Int) (i : Int)) R
 | 0, i, x, hx, hv, hi => by
  have e : x = R := zaG hx hR (by rw [← hv, Nat.pow_zero, Nat.mul_one])
  subst e
  have hl := HL x hx hRM
  refine Ev.step (f := fun _ => some x) (fun k => ?_) (Ev.now _)
  simp only [zc.l4, Option.bind_some, List.length_nil, List.nil_append, Nat.zero_add]
  rw [if_neg (by omega), if_pos (by omega)]
 | n + 1, i, x, hx, hv, hi => by
  have hxM : nv x < M := by
   have h1 : 0 < 2 ^ (n + 1) := Nat.pow_pos (by decide)
   have := Nat.le_mul_of_pos_right (nv x) h1
   omega
  have hl := HL x hx hxM
  obtain ⟨r, h1, h2, h3⟩ := z9s hx hl
  have hn : nv r = 2 * nv x := by have e1 := z0e h2.1; have e2 := z0e hx.1; omega
  have ih := z8O HL ht hR hRM n (i + 1) r h2 (by rw [hn, ← hv, Nat.pow_succ]; generalize 2 ^ n = P; grind) (by clear hv; omega)
  have e3 : wrap64 ((i : Int) + 1) = ((i + 1 : Nat) : Int) := by rw [d64 (by omega) (by omega)]; omega
  have c1 : (i : Int) < (t : Int) := by omega
  clear hv hn hxM
  refine Ev.step (fun k => ?_) (Ev.bind h1 (f := fun k z => zc.l4 k z (t : Int) ((i + 1 : Nat) : Int)) ih)
  simp only [zc.l4, e3]
  rw [if_pos c1]
theorem z2K {M : Nat} (HL : ∀ l, yG l → nv l < M → l.length ≤ 100000) {t : Int} {G : Nat} {R : List Int} (hG : G % 2 = 1) (h4 : ∀ x, yG x → nv x = G → Ev (fun k => zc.l4 k x t 0) R) : ∀ (n : Nat) (x y : List Int), nv x + nv y ≤ n → yG x → yG y → nv x < M → nv y < M → 0 < nv x → Nat.gcd (nv x) (nv y) = G →
 Ev (fun k => zc.l1 k x y t) R ∧ (0 < nv y → Ev (fun k => zc.l2 k x y t) R) ∧ (0 < nv y → nv x % 2 = 1 → Ev (fun k => zc.l3 k x y t) R)
 | 0, x, y, h, _, _, _, _, h0, _ => absurd h0 (by omega)
 | n + 1, x, y, h, hx, hy, hxM, hyM, h0, hg => by
  have hlx := HL x hx hxM
  have hly := HL y hy hyM
  have L3 : 0 < nv y → nv x % 2 = 1 → Ev (fun k => zc.l3 k x y t) R := by
   intro hy0 hxo
   have c1 := z2E hy0
   have hlow := zbU hy.1
   by_cases hye : nv y % 2 = 0
   ·obtain ⟨r, h1, h2, h3⟩ := z3F hy.1 hly
    have hn : nv r = nv y / 2 := by have e1 := z0e h2.1; have e2 := z0e hy.1; omega
    have ih := (z2K HL hG h4 n x r (by omega) hx h2 hxM (by omega) h0 (by rw [hn]; exact z4O (by rw [show 2 * (nv y / 2) = nv y by omega]; exact hg) hG)).2.2 (by omega) hxo
    rw [hye] at hlow
    refine Ev.step (fun k => ?_) (Ev.bind h1 (f := fun k z => zc.l3 k x z t) ih)
    simp only [zc.l3, hlow]
    rw [if_pos c1, if_pos Int.natCast_zero]
   ·have hye1 : nv y % 2 = 1 := by omega
    rw [hye1] at hlow
    obtain ⟨c, hc, hci⟩ := zc1 hx hy (by omega) (by omega)
    by_cases hcp : c > 0
    ·have hlt := hci.1 hcp
     obtain ⟨r, h1, h2, h3⟩ := z8Q hx hy hlx (by omega)
     have hn : nv r = nv x - nv y ∧ nv y ≤ nv x := by have e1 := z0e h2.1; have e2 := z0e hx.1; have e3 := z0e hy.1; omega
     have ih := (z2K HL hG h4 n y r (by omega) hy h2 hyM (by omega) hy0 (by rw [hn.1]; exact z6O (by rw [Nat.gcd_comm]; exact hg) hn.2)).1
     refine Ev.step (fun k => ?_) (Ev.bind hc (f := fun k c => if c > 0 then ((zP.f k x y).bind fun t306 => (zc.l1 k y t306 t)) else ((zP.f k y x).bind fun t309 => (zc.l1 k x t309 t))) (Ev.congr (fun k => if_pos hcp) (Ev.bind h1 ih)))
     simp only [zc.l3, hlow]
     rw [if_pos c1, if_neg (by decide)]
    ·have hle : dv x ≤ dv y := Int.not_lt.1 (fun h => hcp (hci.2 h))
     obtain ⟨r, h1, h2, h3⟩ := z8Q hy hx hly hle
     have hn : nv r = nv y - nv x ∧ nv x ≤ nv y := by have e1 := z0e h2.1; have e2 := z0e hx.1; have e3 := z0e hy.1; omega
     have ih := (z2K HL hG h4 n x r (by omega) hx h2 hxM (by omega) h0 (by rw [hn.1]; exact z6O hg hn.2)).1
     refine Ev.step (fun k => ?_) (Ev.bind hc (f := fun k c => if c > 0 then ((zP.f k x y).bind fun t306 => (zc.l1 k y t306 t)) else ((zP.f k y x).bind fun t309 => (zc.l1 k x t309 t))) (Ev.congr (fun k => if_neg hcp) (Ev.bind h1 ih)))
     simp only [zc.l3, hlow]
     rw [if_pos c1, if_neg (by decide)]
  have L2 : 0 < nv y → Ev (fun k => zc.l2 k x y t) R := by
   intro hy0
   have c1 := z2E h0
   have hlow := zbU hx.1
   by_cases hxe : nv x % 2 = 0
   ·obtain ⟨r, h1, h2, h3⟩ := z3F hx.1 hlx
    have hn : nv r = nv x / 2 := by have e1 := z0e h2.1; have e2 := z0e hx.1; omega
    have ih := (z2K HL hG h4 n r y (by omega) h2 hy (by omega) hyM (by omega) (by rw [hn]; exact z35 (by rw [show 2 * (nv x / 2) = nv x by omega]; exact hg) hG)).2.1 hy0
    rw [hxe] at hlow
    refine Ev.step (fun k => ?_) (Ev.bind h1 (f := fun k z => zc.l2 k z y t) ih)
    simp only [zc.l2, hlow]
    rw [if_pos c1, if_pos Int.natCast_zero]
   ·have hxo : nv x % 2 = 1 := by omega
    rw [hxo] at hlow
    refine Ev.step (fun k => ?_) (L3 hy0 hxo)
    simp only [zc.l2, hlow]
    rw [if_pos c1, if_neg (by decide)]
  refine ⟨?_, L2, L3⟩
  by_cases hy0 : 0 < nv y
  ·refine Ev.step (fun k => ?_) (L2 hy0)
   have := z2E hy0
   simp only [zc.l1]
   rw [if_pos (by omega)]
  ·have hye : y = [] := (z6q hy).1 (by omega)
   subst hye
   have hxG : nv x = G := by rw [← hg]; exact (Nat.gcd_zero_right _).symm
   refine Ev.step (fun k => ?_) (h4 x hx hxG)
   simp only [zc.l1]
   rw [if_neg (by simp)]
theorem zaW {M : Nat} (HL : ∀ l, yG l → nv l < M → l.length ≤ 100000) {R : List Int} (hR : yG R) (hRM : nv R < M) {T : Nat} (hT : T ≤ 100000) : ∀ (f : Nat) (x y : List Int) (t : Nat), nv x < 2 ^ f → t + f ≤ T → yG x → yG y → nv x < M → nv y < M → 0 < nv x → 0 < nv y → Nat.gcd (nv x) (nv y) * 2 ^ t = nv R →
 Ev (fun k => zc.l0 k x y (t : Int)) R
 | 0, x, y, t, h, _, _, _, _, _, h0, _, _ => absurd h0 (by rw [Nat.pow_zero] at h; omega)
 | f + 1, x, y, t, h, ht, hx, hy, hxM, hyM, h0, hy0, hv => by
  have hh : nv x / 2 < 2 ^ f := by rw [Nat.pow_succ] at h; generalize 2 ^ f = P at h ⊢; clear hv; omega
  clear h
  have ht1 : t ≤ 100000 := Nat.le_trans (Nat.le_trans (Nat.le_add_right t (f + 1)) ht) hT
  have q5 : t + 1 + f ≤ T := by rw [Nat.add_assoc, Nat.add_comm 1 f]; exact ht
  have HV := Aside0.mk hv
  have HH := Aside0.mk hh
  have HT := Aside0.mk hT
  clear hv hh
  have c1 := z2E h0
  have c2 := z2E hy0
  have hlx := HL x hx hxM
  have hly := HL y hy hyM
  have lx := zbU hx.1
  have ly := zbU hy.1
  have e3 : wrap64 ((t : Int) + 1) = ((t + 1 : Nat) : Int) := by clear ht hT q5 lx ly; rw [d64 (by omega) (by omega)]; omega
  clear ht hT
  have odd : Nat.gcd (nv x) (nv y) % 2 = 1 → Ev (fun k => zc.l1 k x y (t : Int)) R := fun hG =>
   (z2K HL hG (fun z hz hzG => by
    have h4 := z8O HL ht1 hR hRM t 0 z hz (by rw [hzG]; exact HV.out) (Nat.zero_add _)
    rw [Int.natCast_zero] at h4
    exact h4) (nv x + nv y) x y (Nat.le_refl _) hx hy hxM hyM h0 rfl).1
  by_cases hxe : nv x % 2 = 0; rotate_left
  ·have hxo : nv x % 2 = 1 := by omega
   rw [hxo] at lx
   have hG : Nat.gcd (nv x) (nv y) % 2 = 1 := by
    rcases Nat.mod_two_eq_zero_or_one (Nat.gcd (nv x) (nv y)) with g | g
    ·have := Nat.dvd_trans (Nat.dvd_of_mod_eq_zero g) (Nat.gcd_dvd_left (nv x) (nv y))
     clear g
     omega
    ·exact g
   refine Ev.step (f := fun k => zc.j1 k x y (t : Int) false) (fun k => ?_) (Ev.step (fun k => ?_) (odd hG))
   ·simp only [zc.l0, lx]
    rw [if_pos c1, if_neg (by decide)]
   ·simp only [zc.j1]
    rw [if_neg Bool.false_ne_true]
  rw [hxe] at lx
  by_cases hye : nv y % 2 = 0; rotate_left
  ·have hyo : nv y % 2 = 1 := by omega
   rw [hyo] at ly
   have hG : Nat.gcd (nv x) (nv y) % 2 = 1 := by
    rcases Nat.mod_two_eq_zero_or_one (Nat.gcd (nv x) (nv y)) with g | g
    ·have := Nat.dvd_trans (Nat.dvd_of_mod_eq_zero g) (Nat.gcd_dvd_right (nv x) (nv y))
     clear g
     omega
    ·exact g
   refine Ev.step (f := fun k => zc.j1 k x y (t : Int) false) (fun k => ?_) (Ev.step (fun k => ?_) (odd hG))
   ·simp only [zc.l0, lx, ly]
    rw [if_pos c1, if_pos Int.natCast_zero, if_pos c2]
    rfl
   ·simp only [zc.j1]
    rw [if_neg Bool.false_ne_true]
  rw [hye] at ly
  obtain ⟨r, h1, h2, h3⟩ := z3F hx.1 hlx
  obtain ⟨s, g1, g2, g3⟩ := z3F hy.1 hly
  have hn : nv r = nv x / 2 := by have e1 := z0e h2.1; have e2 := z0e hx.1; omega
  have hs : nv s = nv y / 2 := by have e1 := z0e g2.1; have e2 := z0e hy.1; omega
  have e1 : nv x = 2 * nv r := by omega
  have e2 : nv y = 2 * nv s := by omega
  have q1 : nv r < M := by omega
  have q2 : nv s < M := by omega
  have q3 : 0 < nv r := by omega
  have q4 : 0 < nv s := by omega
  have hgg : Nat.gcd (nv r) (nv s) * 2 ^ (t + 1) = nv R := by
   have hv := HV.out
   rw [e1, e2, zae] at hv
   rw [← hv, Nat.pow_succ]
   generalize 2 ^ t = P
   generalize Nat.gcd (nv r) (nv s) = g
   clear hv
   grind
  have ih := zaW HL hR hRM HT.out f r s (t + 1) (by rw [hn]; exact HH.out) q5 h2 g2 q1 q2 q3 q4 hgg
  clear hgg
  refine Ev.step (f := fun k => zc.j1 k x y (t : Int) true) (fun k => ?_) (Ev.step (f := fun k => (zH.f k x).bind fun t291 => (zH.f k y).bind fun t294 => zc.l0 k t291 t294 ((t + 1 : Nat) : Int)) (fun k => ?_) (Ev.bind h1 (f := fun k t291 => (zH.f k y).bind fun t294 => zc.l0 k t291 t294 ((t + 1 : Nat) : Int)) (Ev.bind g1 (f := fun k t294 => zc.l0 k r t294 ((t + 1 : Nat) : Int)) ih)))
  ·simp only [zc.l0, lx, ly]
   rw [if_pos c1, if_pos Int.natCast_zero, if_pos c2]
   rfl
  ·simp only [zc.j1, e3]
   rw [if_pos trivial]
theorem z7Z : ∀ n : Nat, pB n = ((4294967296 ^ n : Nat) : Int)
 | 0 => rfl
 | n + 1 => by
  show 4294967296 * pB n = _
  rw [z7Z n, Nat.pow_succ]
  generalize (4294967296 : Nat) ^ n = P
  omega
theorem zco {l : List Int} (h : dOk l) {n : Nat} (hl : l.length ≤ n) : nv l < 4294967296 ^ n := by
 have h1 := (yc l h).2
 have h2 := z3C hl
 have h3 := z0e h
 rw [z7Z n] at h2
 generalize 4294967296 ^ n = P at *
 omega
theorem zcY {l : List Int} (h : yG l) {n : Nat} (hn : nv l < 4294967296 ^ n) : l.length ≤ n := by
 rcases Nat.lt_or_ge n l.length with h1 | h1
 ·have h2 := (z0b h (n := l.length - 1) (by omega)).1
  have h3 := z3C (show n ≤ l.length - 1 by omega)
  have h4 := z0e h.1
  rw [z7Z n] at h3
  generalize 4294967296 ^ n = P at *
  omega
 ·exact h1
theorem zc2 {x y : List Int} (n : Nat) (hn : 32 * n ≤ 100000) (hx : yG x) (hy : yG y) (hy0 : y ≠ []) (bx : x.length ≤ n) (by_ : y.length ≤ n) : Ev (fun k => zc.f k x y) (z2m x y) := by
 obtain ⟨g1, g2⟩ := z5z x y
 have hy1 : (y.length : Int) ≠ 0 := by have := List.length_pos_iff.2 hy0; omega
 by_cases hx0 : x = []
 ·subst hx0
  have e : z2m [] y = y := zaG g1 hy (by rw [g2]; exact Nat.gcd_zero_left _)
  rw [e]
  refine Ev.congr (f := fun _ => some y) (fun k => ?_) (Ev.now _)
  unfold zc.f
  have c1 : ([] : List Int).length + y.length < 35184372088832 := by rw [List.length_nil]; omega
  rw [if_pos (show (([] : List Int).length : Int) = 0 from rfl), Option.bind_some, if_pos c1, List.nil_append]
 ·have hx1 : (x.length : Int) ≠ 0 := by have := List.length_pos_iff.2 hx0; omega
  have p1 : 0 < nv x := Nat.pos_of_ne_zero (fun h => hx0 ((z6q hx).1 h))
  have p2 : 0 < nv y := Nat.pos_of_ne_zero (fun h => hy0 ((z6q hy).1 h))
  have hle : nv (z2m x y) ≤ nv y := by rw [g2]; exact Nat.le_of_dvd p2 (Nat.gcd_dvd_right _ _)
  have b1 := zco hx.1 bx
  have b2 := zco hy.1 by_
  have h := zaW (M := 4294967296 ^ n) (fun l hl hlt => by have := zcY hl hlt; clear hlt b1 b2; omega) g1 (Nat.lt_of_le_of_lt hle b2) hn (32 * n) x y 0 (by rw [Nat.pow_mul, show (2 : Nat) ^ 32 = 4294967296 from rfl]; exact b1) (Nat.le_of_eq (Nat.zero_add _)) hx hy b1 b2 p1 p2 (by rw [g2, Nat.pow_zero, Nat.mul_one])
  refine Ev.congr (fun k => ?_) h
  unfold zc.f
  rw [if_neg hx1, if_neg hy1]
  rfl
section
section
attribute [local go_sem] yd zV
attribute [local go_sem] xf xg xD xE yI yJ xl xm
def z14.f (k : Nat) (l0 : List Int) (l1 : List Int) : Option (List Int × Int) := (ym.f k (([l0, l1] : List (List Int)))).bind fun t186 => (if t186 = 0 then ((z2f.f l0 l1).bind fun t187 => (some (t187, 0))) else (some (([] : List Int), t186)))
theorem z14.calls (k : Nat) (P0_ : Nat → Prop) (A0 : Option Addr) (c0 : Nat) (l0 : List Int) (P1_ : Nat → Prop) (A1 : Option Addr) (c1 : Nat) (l1 : List Int) (r1 : List Int) (r2 : Int) (w : World) (hs0 : Kd.V (Kd.int .u32) 145 w w.heap.size (fun k_ => P0_ k_) (.slice A0 l0.length c0) l0) (hs1 : Kd.V (Kd.int .u32) 145 w w.heap.size (fun k_ => P1_ k_) (.slice A1 l1.length c1) l1) (h : z14.f k l0 l1 = some (r1, r2)) :
 Calls Tryz.prog 178 #[.slice A0 l0.length c0, .slice A1 l1.length c1] w fun e w' => ∃ v0_ : Value, e = .returned (.tuple #[v0_, .int .i64 r2]) ∧ Kd.R (Kd.int .u32) 145 w' w.heap.size (fun k_ => (w.heap.size ≤ k_)) v0_ r1 ∧ Below w.heap.size w w' := by
 have HO0 := aS (show Kd.V (Kd.int .u32) 145 w w.heap.size (fun k_ => ((P0_ k_ ∨ P1_ k_) ∨ w.heap.size ≤ k_)) (.slice A0 l0.length c0) l0 from Kd.xi hs0 (fun k_ hk => .inl (.inl hk)))
 have HO1 := aS (show Kd.V (Kd.int .u32) 145 w w.heap.size (fun k_ => ((P0_ k_ ∨ P1_ k_) ∨ w.heap.size ≤ k_)) (.slice A1 l1.length c1) l1 from Kd.xi hs1 (fun k_ hk => .inl (.inr hk)))
 have HB := hR w
 have H := h
 unfold z14.f at H
 clear h
 obtain ⟨y183, Ny183⟩ := yE (([l0, l1] : List (List Int)) : List (List Int))
 rw [← Ny183.out] at H
 replace H := bA H
 obtain ⟨t186, A3, H⟩ := H
 by_cases c4 : t186 = 0
 focus
  rw [if_pos c4] at H
  have c4b0 := bT c4
  have c4b1 := nF c4
  clear c4
  replace H := bA H
  obtain ⟨t187, A5, H⟩ := H
 rotate_left 1
 focus
  rw [if_neg c4] at H
  have c4b0 := bF c4
  have c4b1 := nT c4
 rotate_left 1
 all_goals (simp only [Option.some.injEq, Prod.mk.injEq] at H; obtain ⟨rfl, rfl⟩ := H)
 all_goals (go_enter Tryz.func178, Tryz.ntmps178)
 all_goals (go_wp2_with (first | ((with_reducible refine zq (N := 9) rfl ?_); refine Kd.z3W (Kd.slice 145 (Kd.int .u32)) _ 59 ?hg (N' := 9) ?hd (xs := ([l0, l1] : List (List Int))) (inner := [.slice A0 l0.length c0, .slice A1 l1.length c1]) (ok := (fun k_ => ((P0_ k_ ∨ P1_ k_) ∨ w.heap.size ≤ k_))) (okp := (fun k_ => ((P0_ k_ ∨ P1_ k_) ∨ w.heap.size ≤ k_))) ?hr ?hp (fun _ hk => hk) ((show ∀ k_, w.heap.size ≤ k_ → (fun k_ => ((P0_ k_ ∨ P1_ k_) ∨ w.heap.size ≤ k_)) k_ from fun k_ hk => (.inr (Nat.le_trans (zg (bl HB)) hk))) _ (Nat.le_refl _)) (Below.refl _ _) (Nat.le_refl _) (by simp) ?_; (case hd => rfl); (case hg => rfl); (case hr => first | (go_simp; done) | (go_simp; rfl)); (case hp => exact (zQ.one (show Kd.FK (Kd.slice 145 (Kd.int .u32)) _ _ l0 [.slice A0 l0.length c0] from (Kd.z0B (Kd.zM (Kd.xi (ok' := (fun k_ => ((P0_ k_ ∨ P1_ k_) ∨ w.heap.size ≤ k_))) (HO0.out) (fun k_ hk => hk))).2.1 (Kd.V_F (Kd.xi (ok' := (fun k_ => ((P0_ k_ ∨ P1_ k_) ∨ w.heap.size ≤ k_))) (HO0.out) (fun k_ hk => hk))))) (zQ.one (show Kd.FK (Kd.slice 145 (Kd.int .u32)) _ _ l1 [.slice A1 l1.length c1] from (Kd.z0B (Kd.zM (Kd.xi (ok' := (fun k_ => ((P0_ k_ ∨ P1_ k_) ∨ w.heap.size ≤ k_))) (HO1.out) (fun k_ hk => hk))).2.1 (Kd.V_F (Kd.xi (ok' := (fun k_ => ((P0_ k_ ∨ P1_ k_) ∨ w.heap.size ≤ k_))) (HO1.out) (fun k_ hk => hk))))) (zQ.none _ _)))); intro v184 wq1 ho7 hb hg_ hnew_; clear hg_ hnew_; (first | rw [← Ny183.out] at ho7 | (simp only [Int.reduceToNat] at ho7; rw [← Ny183.out] at ho7)); replace HO0 := aS (Kd.yy (by exact vA HO0.out) (Kd.z0i ho7) hb); replace HO1 := aS (Kd.yy (by exact vA HO1.out) (Kd.z0i ho7) hb); have HO185 := aS (Kd.z0H ho7 (zg (bl HB))); replace HB := hB_ HB hb; clear hb ho7; obtain ⟨Aoq1, coq1, eoq1⟩ := Kd.z0x HO185.out; subst eoq1) | ((with_reducible refine zi (f := 188) rfl ?_); refine gl 10 Tryz.func188 #[.slice Aoq1 y183.length coq1] ?_; (with_reducible refine (ym.calls k _ _ y183 t186 _ ?side1 ?side2 A3.out).mono ?_); (case side1 => exact cA ((Kd.yD HO185.out).2.2)); (case side2 => exact (Kd.yD HO185.out).2.1); rintro e w' ⟨rfl, ⟨nd, rfl⟩⟩; refine ⟨_, rfl, ?_⟩) | ((with_reducible refine zi (f := 212) rfl ?_); refine gl 16 Tryz.func212 #[.slice A0 l0.length c0, .slice A1 l1.length c1] ?_; (with_reducible refine (z2f.calls _ _ l0 _ _ l1 t187 _ ?side1 ?side2 ?side3 ?side4 A5.out).mono ?_); (case side1 => exact cA ((Kd.zM HO0.out).2.2)); (case side2 => exact (Kd.zM HO0.out).2.1); (case side3 => exact cA ((Kd.zM HO1.out).2.2)); (case side4 => exact (Kd.zM HO1.out).2.1); rintro e wq2 ⟨v188, rfl, ho0, hb⟩; refine ⟨_, rfl, ?_⟩; replace HO0 := aS (Kd.yy (by exact vA HO0.out) (Kd.yf ho0) hb); replace HO1 := aS (Kd.yy (by exact vA HO1.out) (Kd.yf ho0) hb); replace HO185 := aS (Kd.z08 (by exact nA HO185.out) (Kd.yf ho0) hb); have HO189 := aS (Kd.zL (Kd.z18 (M := fun k_ => (w.heap.size ≤ k_)) ho0 (zg (bl HB)) (fun k_ h_ => h_)) (zg (bl HB))); replace HB := hB_ HB hb; clear hb ho0) | ((with_reducible refine zq (N := 9) rfl ?_); refine Kd.z3W (Kd.slice 145 (Kd.int .u32)) _ 59 ?hg (N' := 9) ?hd (xs := ([l0, l1] : List (List Int))) (inner := [.slice A0 l0.length c0, .slice A1 l1.length c1]) (ok := (fun k_ => ((P0_ k_ ∨ P1_ k_) ∨ w.heap.size ≤ k_))) (okp := (fun k_ => ((P0_ k_ ∨ P1_ k_) ∨ w.heap.size ≤ k_))) ?hr ?hp (fun _ hk => hk) ((show ∀ k_, w.heap.size ≤ k_ → (fun k_ => ((P0_ k_ ∨ P1_ k_) ∨ w.heap.size ≤ k_)) k_ from fun k_ hk => (.inr (Nat.le_trans (zg (bl HB)) hk))) _ (Nat.le_refl _)) (Below.refl _ _) (Nat.le_refl _) (by simp) ?_; (case hd => rfl); (case hg => rfl); (case hr => first | (go_simp; done) | (go_simp; rfl)); (case hp => exact (zQ.one (show Kd.FK (Kd.slice 145 (Kd.int .u32)) _ _ l0 [.slice A0 l0.length c0] from (Kd.z0B (Kd.zM (Kd.xi (ok' := (fun k_ => ((P0_ k_ ∨ P1_ k_) ∨ w.heap.size ≤ k_))) (HO0.out) (fun k_ hk => hk))).2.1 (Kd.V_F (Kd.xi (ok' := (fun k_ => ((P0_ k_ ∨ P1_ k_) ∨ w.heap.size ≤ k_))) (HO0.out) (fun k_ hk => hk))))) (zQ.one (show Kd.FK (Kd.slice 145 (Kd.int .u32)) _ _ l1 [.slice A1 l1.length c1] from (Kd.z0B (Kd.zM (Kd.xi (ok' := (fun k_ => ((P0_ k_ ∨ P1_ k_) ∨ w.heap.size ≤ k_))) (HO1.out) (fun k_ hk => hk))).2.1 (Kd.V_F (Kd.xi (ok' := (fun k_ => ((P0_ k_ ∨ P1_ k_) ∨ w.heap.size ≤ k_))) (HO1.out) (fun k_ hk => hk))))) (zQ.none _ _)))); intro v184 wq1 ho11 hb hg_ hnew_; clear hg_ hnew_; (first | rw [← Ny183.out] at ho11 | (simp only [Int.reduceToNat] at ho11; rw [← Ny183.out] at ho11)); replace HO0 := aS (Kd.yy (by exact vA HO0.out) (Kd.z0i ho11) hb); replace HO1 := aS (Kd.yy (by exact vA HO1.out) (Kd.z0i ho11) hb); have HO185 := aS (Kd.z0H ho11 (zg (bl HB))); replace HB := hB_ HB hb; clear hb ho11; obtain ⟨Aoq1, coq1, eoq1⟩ := Kd.z0x HO185.out; subst eoq1)))
 ·go_ret2
  exact ⟨_, re, by exact rA (Kd.zw HO189.out (fun _ hk => hk.1)), bl HB⟩
 ·go_ret2
  exact ⟨_, re, by first | exact Kd.z0l _ _ _ _ _ | exact Kd.z2l _ _ _ _ _ | exact Kd.z2w _ _ _ _ _ | exact Kd.z2o _ _ _ _ _ | exact Kd.z2u _ _ _ _ _, bl HB⟩
def z1f.f (k : Nat) (a0_0 : Int) (a0_1 : Bool) (l0_2 : List Int) (l0_3 : List Int) : Option (Bool) := if a0_0 = 0 then ((xH.f k l0_2).bind fun t192 => (if t192 = true then ((xH.f k l0_3).bind fun t193 => (if t193 = true then ((xG.f k l0_2).bind fun t194 => (if t194 = true then (some false) else ((xG.f k l0_3).bind fun t195 => (if t195 = true then (some false) else (if (l0_3.length : Int) = 0 then (some false) else (if a0_1 = true then (if (l0_2.length : Int) = 0 then (some false) else ((z14.f k l0_2 l0_3).bind fun bt196 => (if (bt196.1.length : Int) = 1 then (if 0 < (bt196.1.length : Int) then (some ((rd bt196.1 0) == 1)) else (none)) else (some false)))) else ((z14.f k l0_2 l0_3).bind fun bt201 => (if (bt201.1.length : Int) = 1 then (if 0 < (bt201.1.length : Int) then (some ((rd bt201.1 0) == 1)) else (none)) else (some false))))))))) else (some false))) else (some false))) else ((z0c.f a0_0).bind fun t191 => (if t191 = true then (if a0_1 = true then (some false) else (some ((wrap64 ((l0_2.length : Int) + (l0_3.length : Int))) == 0))) else (some false)))
theorem z1f.calls (k : Nat) (a0_0 : Int) (a0_1 : Bool) (A0_2 : Option Addr) (c0_2 : Nat) (l0_2 : List Int) (A0_3 : Option Addr) (c0_3 : Nat) (l0_3 : List Int) (r : Bool) (w : World) (hr0_2 : Kd.C (Kd.int .u32) w A0_2 l0_2.length l0_2) (hc0_2 : l0_2.length ≤ c0_2) (hr0_3 : Kd.C (Kd.int .u32) w A0_3 l0_3.length l0_3) (hc0_3 : l0_3.length ≤ c0_3) (h : z1f.f k a0_0 a0_1 l0_2 l0_3 = some r) :
 Calls Tryz.prog 140 #[.agg #[.int .i64 a0_0, .bool a0_1, .slice A0_2 l0_2.length c0_2, .slice A0_3 l0_3.length c0_3]] w fun e w' => e = .returned (.bool r) ∧ Below w.heap.size w w' := by
 have hu61 := Tryz.underlying61
 have HR0_2 := aS hr0_2
 have HC0_2 := aS hc0_2
 clear hr0_2 hc0_2
 have HR0_3 := aS hr0_3
 have HC0_3 := aS hc0_3
 clear hr0_3 hc0_3
 have HB := hR w
 have H := h
 unfold z1f.f at H
 clear h
 by_cases c2 : a0_0 = 0
 focus
  rw [if_pos c2] at H
  have c2b0 := bT c2
  have c2b1 := nF c2
  clear c2
  replace H := bA H
  obtain ⟨t192, A3, H⟩ := H
  by_cases c4 : t192 = true
  focus
   subst c4
   rw [if_pos rfl] at H
   replace H := bA H
   obtain ⟨t193, A5, H⟩ := H
   by_cases c6 : t193 = true
   focus
    subst c6
    rw [if_pos rfl] at H
    replace H := bA H
    obtain ⟨t194, A7, H⟩ := H
    by_cases c8 : t194 = true
    focus
     subst c8
     rw [if_pos rfl] at H
    rotate_left 1
    focus
     replace c8 := Bool.eq_false_iff.mpr c8
     subst c8
     rw [if_neg iN] at H
     replace H := bA H
     obtain ⟨t195, A16, H⟩ := H
     by_cases c17 : t195 = true
     focus
      subst c17
      rw [if_pos rfl] at H
     rotate_left 1
     focus
      replace c17 := Bool.eq_false_iff.mpr c17
      subst c17
      rw [if_neg iN] at H
      by_cases c27 : (l0_3.length : Int) = 0
      focus
       rw [if_pos c27] at H
       have c27b0 := bT c27
       have c27b1 := nF c27
       clear c27
      rotate_left 1
      focus
       rw [if_neg c27] at H
       have c27b0 := bF c27
       have c27b1 := nT c27
       have c27b2 : ¬ (l0_3 = []) := fun h_ => c27 (by rw [h_]; rfl)
       by_cases c38 : a0_1 = true
       focus
        subst c38
        rw [if_pos rfl] at H
        by_cases c39 : (l0_2.length : Int) = 0
        focus
         rw [if_pos c39] at H
         have c39b0 := bT c39
         have c39b1 := nF c39
         clear c39
        rotate_left 1
        focus
         rw [if_neg c39] at H
         have c39b0 := bF c39
         have c39b1 := nT c39
         have c39b2 : ¬ (l0_2 = []) := fun h_ => c39 (by rw [h_]; rfl)
         replace H := bS H
         obtain ⟨⟨t196, t199⟩, A500, H⟩ := H
         (try dsimp only at H)
         have A50 := aS A500
         clear A500
         by_cases c51 : (t196.length : Int) = 1
         focus
          rw [if_pos c51] at H
          have c51b0 := bT c51
          have c51b1 := nF c51
          clear c51
          replace H := iN_ H
          obtain ⟨c52, H⟩ := H
          have c52b0 := dT c52
          have c52b1 : decide (0 < t196.length) = true := dT (by omega)
          clear c52
         rotate_left 1
         focus
          rw [if_neg c51] at H
          have c51b0 := bF c51
          have c51b1 := nT c51
         rotate_left 1
        rotate_left 2
       rotate_left 3
       focus
        replace c38 := Bool.eq_false_iff.mpr c38
        subst c38
        rw [if_neg iN] at H
        replace H := bS H
        obtain ⟨⟨t201, t204⟩, A770, H⟩ := H
        (try dsimp only at H)
        have A77 := aS A770
        clear A770
        by_cases c78 : (t201.length : Int) = 1
        focus
         rw [if_pos c78] at H
         have c78b0 := bT c78
         have c78b1 := nF c78
         clear c78
         replace H := iN_ H
         obtain ⟨c79, H⟩ := H
         have c79b0 := dT c79
         have c79b1 : decide (0 < t201.length) = true := dT (by omega)
         clear c79
        rotate_left 1
        focus
         rw [if_neg c78] at H
         have c78b0 := bF c78
         have c78b1 := nT c78
        rotate_left 1
       rotate_left 2
      rotate_left 5
     rotate_left 6
    rotate_left 7
   rotate_left 8
   focus
    replace c6 := Bool.eq_false_iff.mpr c6
    subst c6
    rw [if_neg iN] at H
   rotate_left 1
  rotate_left 9
  focus
   replace c4 := Bool.eq_false_iff.mpr c4
   subst c4
   rw [if_neg iN] at H
  rotate_left 1
 rotate_left 10
 focus
  rw [if_neg c2] at H
  have c2b0 := bF c2
  have c2b1 := nT c2
  replace H := bA H
  obtain ⟨t191, A112, H⟩ := H
  by_cases c113 : t191 = true
  focus
   subst c113
   rw [if_pos rfl] at H
   by_cases c114 : a0_1 = true
   focus
    subst c114
    rw [if_pos rfl] at H
   rotate_left 1
   focus
    replace c114 := Bool.eq_false_iff.mpr c114
    subst c114
    rw [if_neg iN] at H
   rotate_left 1
  rotate_left 2
  focus
   replace c113 := Bool.eq_false_iff.mpr c113
   subst c113
   rw [if_neg iN] at H
  rotate_left 1
 rotate_left 3
 all_goals (obtain rfl := sI H)
 all_goals (go_enter Tryz.func140, Tryz.ntmps140)
 all_goals (go_wp2_with (first | ((with_reducible refine zq (N := 1) rfl ?_); (try (refine yq (by rfl) ?_; dsimp only)); refine bx (N := 1) (cs := #[.int .i64 a0_0, .bool true, .slice A0_2 l0_2.length c0_2, .slice A0_3 l0_3.length c0_3]) (t := 61) ?_; intro gb190 hg wq1 hbox hb; have BK190 := aS (hbox); have GW190 := (gz hg HB : Aside0 (w.heap.size ≤ gb190)); have GE190 := (gz hg HB : Aside0 (w.heap.size ≤ gb190)); replace HB := hB_ HB hb; clear hb hbox hg; obtain ⟨_, _, _, _, _, _, _, _⟩ := cf4 BK190.out) | ((with_reducible refine zi (f := 176) rfl ?_); refine gl 28 Tryz.func176 #[.slice A0_2 l0_2.length c0_2] ?_; (with_reducible refine (xH.calls k (fun k_ => k_ < w.heap.size) _ _ l0_2 true _ ?side1 A3.out).mono ?_); (case side1 => exact Kd.z1a HC0_2.out (Kd.yU (Kd.C_F (Kd.yw .u32) HR0_2.out) (bl HB))); rintro e wq2 ⟨rfl, hb⟩; refine ⟨_, rfl, ?_⟩; replace BK190 := bb BK190 hb; replace HB := hB_ HB hb; clear hb; obtain ⟨_, _, _, _, _, _, _, _⟩ := cf4 BK190.out) | (go_at_call 176; (with_reducible refine (xH.calls k (fun k_ => k_ < w.heap.size) _ _ l0_3 true _ ?side1 A5.out).mono ?_); (case side1 => exact Kd.z1a HC0_3.out (Kd.yU (Kd.C_F (Kd.yw .u32) HR0_3.out) (bl HB))); rintro e wq3 ⟨rfl, hb⟩; replace BK190 := bb BK190 hb; replace HB := hB_ HB hb; clear hb; obtain ⟨_, _, _, _, _, _, _, _⟩ := cf4 BK190.out) | (go_at_call 177; (with_reducible refine (xG.calls k _ _ l0_2 false _ ?side1 ?side2 A7.out).mono ?_); (case side1 => exact cb HR0_2 HB); (case side2 => exact HC0_2.out); rintro e wq4 ⟨rfl, hb⟩; replace BK190 := bb BK190 hb; replace HB := hB_ HB hb; clear hb; obtain ⟨_, _, _, _, _, _, _, _⟩ := cf4 BK190.out) | (go_at_call 177; (with_reducible refine (xG.calls k _ _ l0_3 false _ ?side1 ?side2 A16.out).mono ?_); (case side1 => exact cb HR0_3 HB); (case side2 => exact HC0_3.out); rintro e wq5 ⟨rfl, hb⟩; replace BK190 := bb BK190 hb; replace HB := hB_ HB hb; clear hb; obtain ⟨_, _, _, _, _, _, _, _⟩ := cf4 BK190.out) | ((with_reducible refine zi (f := 178) rfl ?_); refine gl 67 Tryz.func178 #[.slice A0_2 l0_2.length c0_2, .slice A0_3 l0_3.length c0_3] ?_; (with_reducible refine (z14.calls k (fun k_ => k_ < w.heap.size) _ _ l0_2 (fun k_ => k_ < w.heap.size) _ _ l0_3 t196 t199 _ ?side1 ?side2 A50.out).mono ?_); (case side1 => exact Kd.z1a HC0_2.out (Kd.yU (Kd.C_F (Kd.yw .u32) HR0_2.out) (bl HB))); (case side2 => exact Kd.z1a HC0_3.out (Kd.yU (Kd.C_F (Kd.yw .u32) HR0_3.out) (bl HB))); rintro e wq6 ⟨v197, rfl, ho0, hb⟩; refine ⟨_, rfl, ?_⟩; have HO198 := aS (Kd.zL (Kd.zw (ok' := fun k_ => True) ho0 (fun _ hk_ => trivial)) (zg (bl HB))); replace BK190 := bb BK190 hb; replace HB := hB_ HB hb; clear hb ho0; obtain ⟨Aoq1, coq1, eoq1⟩ := Kd.zB HO198.out; subst eoq1; have p200 : 0 ≤ (0 : Int) := (by omega); have q200 : 0 < (t196.length : Int) := oa; obtain ⟨ad200, e200, hx200_0⟩ := Kd.zT (Kd.zz HO198.out).2.2 0 p200 q200; cases e200; have qi200 : (0 < t196.length) = True := eq_true (by omega); (try rw [show ((0 : Int)).toNat = 0 from rfl] at hx200_0); (try rw [Addr.add_zero'] at hx200_0); replace p200 := eq_true p200; replace q200 := eq_true q200) | ((with_reducible refine zi (f := 178) rfl ?_); refine gl 67 Tryz.func178 #[.slice A0_2 l0_2.length c0_2, .slice A0_3 l0_3.length c0_3] ?_; (with_reducible refine (z14.calls k (fun k_ => k_ < w.heap.size) _ _ l0_2 (fun k_ => k_ < w.heap.size) _ _ l0_3 t196 t199 _ ?side1 ?side2 A50.out).mono ?_); (case side1 => exact Kd.z1a HC0_2.out (Kd.yU (Kd.C_F (Kd.yw .u32) HR0_2.out) (bl HB))); (case side2 => exact Kd.z1a HC0_3.out (Kd.yU (Kd.C_F (Kd.yw .u32) HR0_3.out) (bl HB))); rintro e wq6 ⟨v197, rfl, ho0, hb⟩; refine ⟨_, rfl, ?_⟩; have HO198 := aS (Kd.zL (Kd.zw (ok' := fun k_ => True) ho0 (fun _ hk_ => trivial)) (zg (bl HB))); replace BK190 := bb BK190 hb; replace HB := hB_ HB hb; clear hb ho0; obtain ⟨Aoq1, coq1, eoq1⟩ := Kd.zB HO198.out; subst eoq1) | ((with_reducible refine zq (N := 1) rfl ?_); (try (refine yq (by rfl) ?_; dsimp only)); refine bx (N := 1) (cs := #[.int .i64 a0_0, .bool false, .slice A0_2 l0_2.length c0_2, .slice A0_3 l0_3.length c0_3]) (t := 61) ?_; intro gb190 hg wq1 hbox hb; have BK190 := aS (hbox); have GW190 := (gz hg HB : Aside0 (w.heap.size ≤ gb190)); have GE190 := (gz hg HB : Aside0 (w.heap.size ≤ gb190)); replace HB := hB_ HB hb; clear hb hbox hg; obtain ⟨_, _, _, _, _, _, _, _⟩ := cf4 BK190.out) | ((with_reducible refine zi (f := 176) rfl ?_); refine gl 28 Tryz.func176 #[.slice A0_2 l0_2.length c0_2] ?_; (with_reducible refine (xH.calls k (fun k_ => k_ < w.heap.size) _ _ l0_2 true _ ?side1 A3.out).mono ?_); (case side1 => exact Kd.z1a HC0_2.out (Kd.yU (Kd.C_F (Kd.yw .u32) HR0_2.out) (bl HB))); rintro e wq2 ⟨rfl, hb⟩; refine ⟨_, rfl, ?_⟩; replace BK190 := bb BK190 hb; replace HB := hB_ HB hb; clear hb; obtain ⟨_, _, _, _, _, _, _, _⟩ := cf4 BK190.out) | (go_at_call 176; (with_reducible refine (xH.calls k (fun k_ => k_ < w.heap.size) _ _ l0_3 true _ ?side1 A5.out).mono ?_); (case side1 => exact Kd.z1a HC0_3.out (Kd.yU (Kd.C_F (Kd.yw .u32) HR0_3.out) (bl HB))); rintro e wq3 ⟨rfl, hb⟩; replace BK190 := bb BK190 hb; replace HB := hB_ HB hb; clear hb; obtain ⟨_, _, _, _, _, _, _, _⟩ := cf4 BK190.out) | (go_at_call 177; (with_reducible refine (xG.calls k _ _ l0_2 false _ ?side1 ?side2 A7.out).mono ?_); (case side1 => exact cb HR0_2 HB); (case side2 => exact HC0_2.out); rintro e wq4 ⟨rfl, hb⟩; replace BK190 := bb BK190 hb; replace HB := hB_ HB hb; clear hb; obtain ⟨_, _, _, _, _, _, _, _⟩ := cf4 BK190.out) | (go_at_call 177; (with_reducible refine (xG.calls k _ _ l0_3 false _ ?side1 ?side2 A16.out).mono ?_); (case side1 => exact cb HR0_3 HB); (case side2 => exact HC0_3.out); rintro e wq5 ⟨rfl, hb⟩; replace BK190 := bb BK190 hb; replace HB := hB_ HB hb; clear hb; obtain ⟨_, _, _, _, _, _, _, _⟩ := cf4 BK190.out) | ((with_reducible refine zi (f := 178) rfl ?_); refine gl 67 Tryz.func178 #[.slice A0_2 l0_2.length c0_2, .slice A0_3 l0_3.length c0_3] ?_; (with_reducible refine (z14.calls k (fun k_ => k_ < w.heap.size) _ _ l0_2 (fun k_ => k_ < w.heap.size) _ _ l0_3 t201 t204 _ ?side1 ?side2 A77.out).mono ?_); (case side1 => exact Kd.z1a HC0_2.out (Kd.yU (Kd.C_F (Kd.yw .u32) HR0_2.out) (bl HB))); (case side2 => exact Kd.z1a HC0_3.out (Kd.yU (Kd.C_F (Kd.yw .u32) HR0_3.out) (bl HB))); rintro e wq6 ⟨v202, rfl, ho0, hb⟩; refine ⟨_, rfl, ?_⟩; have HO203 := aS (Kd.zL (Kd.zw (ok' := fun k_ => True) ho0 (fun _ hk_ => trivial)) (zg (bl HB))); replace BK190 := bb BK190 hb; replace HB := hB_ HB hb; clear hb ho0; obtain ⟨Aoq1, coq1, eoq1⟩ := Kd.zB HO203.out; subst eoq1; have p205 : 0 ≤ (0 : Int) := (by omega); have q205 : 0 < (t201.length : Int) := oa; obtain ⟨ad205, e205, hx205_0⟩ := Kd.zT (Kd.zz HO203.out).2.2 0 p205 q205; cases e205; have qi205 : (0 < t201.length) = True := eq_true (by omega); (try rw [show ((0 : Int)).toNat = 0 from rfl] at hx205_0); (try rw [Addr.add_zero'] at hx205_0); replace p205 := eq_true p205; replace q205 := eq_true q205) | ((with_reducible refine zi (f := 178) rfl ?_); refine gl 67 Tryz.func178 #[.slice A0_2 l0_2.length c0_2, .slice A0_3 l0_3.length c0_3] ?_; (with_reducible refine (z14.calls k (fun k_ => k_ < w.heap.size) _ _ l0_2 (fun k_ => k_ < w.heap.size) _ _ l0_3 t201 t204 _ ?side1 ?side2 A77.out).mono ?_); (case side1 => exact Kd.z1a HC0_2.out (Kd.yU (Kd.C_F (Kd.yw .u32) HR0_2.out) (bl HB))); (case side2 => exact Kd.z1a HC0_3.out (Kd.yU (Kd.C_F (Kd.yw .u32) HR0_3.out) (bl HB))); rintro e wq6 ⟨v202, rfl, ho0, hb⟩; refine ⟨_, rfl, ?_⟩; have HO203 := aS (Kd.zL (Kd.zw (ok' := fun k_ => True) ho0 (fun _ hk_ => trivial)) (zg (bl HB))); replace BK190 := bb BK190 hb; replace HB := hB_ HB hb; clear hb ho0; obtain ⟨Aoq1, coq1, eoq1⟩ := Kd.zB HO203.out; subst eoq1) | ((with_reducible refine zq (N := 1) rfl ?_); (try (refine yq (by rfl) ?_; dsimp only)); refine bx (N := 1) (cs := #[.int .i64 a0_0, .bool a0_1, .slice A0_2 l0_2.length c0_2, .slice A0_3 l0_3.length c0_3]) (t := 61) ?_; intro gb190 hg wq1 hbox hb; have BK190 := aS (hbox); have GW190 := (gz hg HB : Aside0 (w.heap.size ≤ gb190)); have GE190 := (gz hg HB : Aside0 (w.heap.size ≤ gb190)); replace HB := hB_ HB hb; clear hb hbox hg; obtain ⟨_, _, _, _, _, _, _, _⟩ := cf4 BK190.out) | ((with_reducible refine zi (f := 176) rfl ?_); refine gl 28 Tryz.func176 #[.slice A0_2 l0_2.length c0_2] ?_; (with_reducible refine (xH.calls k (fun k_ => k_ < w.heap.size) _ _ l0_2 true _ ?side1 A3.out).mono ?_); (case side1 => exact Kd.z1a HC0_2.out (Kd.yU (Kd.C_F (Kd.yw .u32) HR0_2.out) (bl HB))); rintro e wq2 ⟨rfl, hb⟩; refine ⟨_, rfl, ?_⟩; replace BK190 := bb BK190 hb; replace HB := hB_ HB hb; clear hb; obtain ⟨_, _, _, _, _, _, _, _⟩ := cf4 BK190.out) | (go_at_call 176; (with_reducible refine (xH.calls k (fun k_ => k_ < w.heap.size) _ _ l0_3 true _ ?side1 A5.out).mono ?_); (case side1 => exact Kd.z1a HC0_3.out (Kd.yU (Kd.C_F (Kd.yw .u32) HR0_3.out) (bl HB))); rintro e wq3 ⟨rfl, hb⟩; replace BK190 := bb BK190 hb; replace HB := hB_ HB hb; clear hb; obtain ⟨_, _, _, _, _, _, _, _⟩ := cf4 BK190.out) | (go_at_call 177; (with_reducible refine (xG.calls k _ _ l0_2 false _ ?side1 ?side2 A7.out).mono ?_); (case side1 => exact cb HR0_2 HB); (case side2 => exact HC0_2.out); rintro e wq4 ⟨rfl, hb⟩; replace BK190 := bb BK190 hb; replace HB := hB_ HB hb; clear hb; obtain ⟨_, _, _, _, _, _, _, _⟩ := cf4 BK190.out) | (go_at_call 177; (with_reducible refine (xG.calls k _ _ l0_3 true _ ?side1 ?side2 A16.out).mono ?_); (case side1 => exact cb HR0_3 HB); (case side2 => exact HC0_3.out); rintro e wq5 ⟨rfl, hb⟩; replace BK190 := bb BK190 hb; replace HB := hB_ HB hb; clear hb) | (go_at_call 177; (with_reducible refine (xG.calls k _ _ l0_3 false _ ?side1 ?side2 A16.out).mono ?_); (case side1 => exact cb HR0_3 HB); (case side2 => exact HC0_3.out); rintro e wq5 ⟨rfl, hb⟩; replace BK190 := bb BK190 hb; replace HB := hB_ HB hb; clear hb; obtain ⟨_, _, _, _, _, _, _, _⟩ := cf4 BK190.out) | (go_at_call 177; (with_reducible refine (xG.calls k _ _ l0_2 true _ ?side1 ?side2 A7.out).mono ?_); (case side1 => exact cb HR0_2 HB); (case side2 => exact HC0_2.out); rintro e wq4 ⟨rfl, hb⟩; replace BK190 := bb BK190 hb; replace HB := hB_ HB hb; clear hb) | (go_at_call 176; (with_reducible refine (xH.calls k (fun k_ => k_ < w.heap.size) _ _ l0_3 false _ ?side1 A5.out).mono ?_); (case side1 => exact Kd.z1a HC0_3.out (Kd.yU (Kd.C_F (Kd.yw .u32) HR0_3.out) (bl HB))); rintro e wq3 ⟨rfl, hb⟩; replace BK190 := bb BK190 hb; replace HB := hB_ HB hb; clear hb) | ((with_reducible refine zi (f := 176) rfl ?_); refine gl 28 Tryz.func176 #[.slice A0_2 l0_2.length c0_2] ?_; (with_reducible refine (xH.calls k (fun k_ => k_ < w.heap.size) _ _ l0_2 false _ ?side1 A3.out).mono ?_); (case side1 => exact Kd.z1a HC0_2.out (Kd.yU (Kd.C_F (Kd.yw .u32) HR0_2.out) (bl HB))); rintro e wq2 ⟨rfl, hb⟩; refine ⟨_, rfl, ?_⟩; replace BK190 := bb BK190 hb; replace HB := hB_ HB hb; clear hb) | ((with_reducible refine zi (f := 175) rfl ?_); refine gl 10 Tryz.func175 #[.int .i64 a0_0] ?_; (with_reducible refine (z0c.calls a0_0 true _ A112.out).mono ?_); rintro e w' ⟨rfl, ⟨nd, rfl⟩⟩; refine ⟨_, rfl, ?_⟩) | ((with_reducible refine zi (f := 175) rfl ?_); refine gl 10 Tryz.func175 #[.int .i64 a0_0] ?_; (with_reducible refine (z0c.calls a0_0 false _ A112.out).mono ?_); rintro e w' ⟨rfl, ⟨nd, rfl⟩⟩; refine ⟨_, rfl, ?_⟩)))
 ·go_ret
  exact ⟨re, bl HB⟩
 ·go_ret
  exact ⟨re, bl HB⟩
 ·go_ret
  exact ⟨re, bl HB⟩
 ·go_ret
  exact ⟨re, bl HB⟩
 ·go_ret
  exact ⟨re, bl HB⟩
 ·go_ret
  exact ⟨re, bl HB⟩
 ·go_ret
  exact ⟨re, bl HB⟩
 ·go_ret
  exact ⟨re, bl HB⟩
 ·go_ret
  exact ⟨re, bl HB⟩
 ·go_ret
  exact ⟨re, bl HB⟩
 ·go_ret
  exact ⟨re, bl HB⟩
 ·go_ret
  exact ⟨re, bl HB⟩
 ·go_ret
  exact ⟨re, bl HB⟩
def z0T.f (a0_0 : Int) (a0_1 : Bool) (l0_2 : List Int) (l0_3 : List Int) : Option (Bool) := if a0_0 = 0 then (if a0_1 = true then (some false) else (some ((wrap64 ((l0_2.length : Int) + (l0_3.length : Int))) == 0))) else (some false)
theorem z0T.calls (a0_0 : Int) (a0_1 : Bool) (A0_2 : Option Addr) (c0_2 : Nat) (l0_2 : List Int) (A0_3 : Option Addr) (c0_3 : Nat) (l0_3 : List Int) (r : Bool) (w : World) (hr0_2 : Kd.C (Kd.int .u32) w A0_2 l0_2.length l0_2) (hc0_2 : l0_2.length ≤ c0_2) (hr0_3 : Kd.C (Kd.int .u32) w A0_3 l0_3.length l0_3) (hc0_3 : l0_3.length ≤ c0_3) (h : z0T.f a0_0 a0_1 l0_2 l0_3 = some r) :
 Calls Tryz.prog 141 #[.agg #[.int .i64 a0_0, .bool a0_1, .slice A0_2 l0_2.length c0_2, .slice A0_3 l0_3.length c0_3]] w fun e w' => e = .returned (.bool r) ∧ Below w.heap.size w w' := by
 have hu61 := Tryz.underlying61
 have HR0_2 := aS hr0_2
 have HC0_2 := aS hc0_2
 clear hr0_2 hc0_2
 have HR0_3 := aS hr0_3
 have HC0_3 := aS hc0_3
 clear hr0_3 hc0_3
 have HB := hR w
 have H := h
 unfold z0T.f at H
 clear h
 by_cases c2 : a0_0 = 0; rotate_left
 ·rw [if_neg c2] at H
  have c2b0 := bF c2
  have c2b1 := nT c2
  obtain rfl := sI H
  go_enter Tryz.func141, Tryz.ntmps141
  go_wp2_with (first | ((with_reducible refine zq (N := 1) rfl ?_); (try (refine yq (by rfl) ?_; dsimp only)); refine bx (N := 1) (cs := #[.int .i64 a0_0, .bool a0_1, .slice A0_2 l0_2.length c0_2, .slice A0_3 l0_3.length c0_3]) (t := 61) ?_; intro gb206 hg w8 hbox hb; have BK206 := aS (hbox); have GW206 := (gz hg HB : Aside0 (w.heap.size ≤ gb206)); have GE206 := (gz hg HB : Aside0 (w.heap.size ≤ gb206)); replace HB := hB_ HB hb; clear hb hbox hg; obtain ⟨_, _, _, _, _, _, _, _⟩ := cf4 BK206.out))
  go_ret
  exact ⟨re, bl HB⟩
 rw [if_pos c2] at H
 have c2b0 := bT c2
 have c2b1 := nF c2
 clear c2
 by_cases c3 : a0_1 = true
 ·subst c3
  rw [if_pos rfl] at H
  obtain rfl := sI H
  go_enter Tryz.func141, Tryz.ntmps141
  go_wp2_with (first | ((with_reducible refine zq (N := 1) rfl ?_); (try (refine yq (by rfl) ?_; dsimp only)); refine bx (N := 1) (cs := #[.int .i64 a0_0, .bool true, .slice A0_2 l0_2.length c0_2, .slice A0_3 l0_3.length c0_3]) (t := 61) ?_; intro gb206 hg w4 hbox hb; have BK206 := aS (hbox); have GW206 := (gz hg HB : Aside0 (w.heap.size ≤ gb206)); have GE206 := (gz hg HB : Aside0 (w.heap.size ≤ gb206)); replace HB := hB_ HB hb; clear hb hbox hg; obtain ⟨_, _, _, _, _, _, _, _⟩ := cf4 BK206.out))
  go_ret
  exact ⟨re, bl HB⟩
 ·replace c3 := Bool.eq_false_iff.mpr c3
  subst c3
  rw [if_neg iN] at H
  obtain rfl := sI H
  go_enter Tryz.func141, Tryz.ntmps141
  go_wp2_with (first | ((with_reducible refine zq (N := 1) rfl ?_); (try (refine yq (by rfl) ?_; dsimp only)); refine bx (N := 1) (cs := #[.int .i64 a0_0, .bool false, .slice A0_2 l0_2.length c0_2, .slice A0_3 l0_3.length c0_3]) (t := 61) ?_; intro gb206 hg w6 hbox hb; have BK206 := aS (hbox); have GW206 := (gz hg HB : Aside0 (w.heap.size ≤ gb206)); have GE206 := (gz hg HB : Aside0 (w.heap.size ≤ gb206)); replace HB := hB_ HB hb; clear hb hbox hg; obtain ⟨_, _, _, _, _, _, _, _⟩ := cf4 BK206.out))
  go_ret
  exact ⟨re, bl HB⟩
end
end
end Go.Proofs.QP

