import Derived.Deep.Slices
import Derived.Lib.SmallJoins
import Derived.Carry
import Derived.Test.YtbkknoipgmlcmaaGreatDoorQGM23
set_option linter.all false
set_option maxRecDepth 100000
namespace Go.Proofs.QP
open Go.RowKit Go.Proofs.PW Go.Proofs.PL Go.Proofs.PM Go.Proofs.FX
theorem z7N {n s1 s2 s3 f1 f2 f3 : Int} (u1 : z4d n s1 f1 1) (u2 : z4d n s2 f2 2) (u3 : z4d n s3 f3 3) (hc : n = 25 → f1 = 3) (l : List S50) (a1 i1 i2 i3 : Int) (hl : z3I l) (a0 : 0 ≤ a1) (a2 : a1 < (l.length : Int)) (h1 : 1 ≤ (z8 l a1).f3) (h2 : (z8 l a1).f3 ≤ 8192) :
 thF l a1 i1 i2 i3 s1 s2 s3 0 = some (knR l a1 n i1 i2 i3 f1 f2 f3) := by
 unfold thF knR
 rw [z5a l a1 i1 i1 u1 hl a0 a2 h1 h2 (fun _ h => absurd rfl h), Option.bind_some]
 show (if thR f1 i1 (knA l a1 n) a1 _ _ = true then _ else _) = _
 cases hA : thR f1 i1 (knA l a1 n) a1 (z8 l a1).f3 ((z8 l a1).f4.length : Int) with
 | false => rfl
 | true =>
  have hi : n = 25 → ∀ j : Nat, j ≠ 1 → 0 ≤ i1 ∧ i1 < a1 := fun e j _ => by
   obtain rfl := hc e
   unfold thR at hA
   rw [if_neg (by decide), if_neg (by decide), if_pos rfl, Bool.and_eq_true, decide_eq_true_eq, decide_eq_true_eq] at hA
   exact hA
  rw [if_pos rfl, z5a l a1 i1 i2 u2 hl a0 a2 h1 h2 (fun e h => hi e 2 h), Option.bind_some, Bool.true_and]
  show (if thR f2 i2 (knB l a1 n i1) a1 _ _ = true then _ else _) = _
  cases hB : thR f2 i2 (knB l a1 n i1) a1 (z8 l a1).f3 ((z8 l a1).f4.length : Int) with
  | false => rfl
  | true =>
   rw [if_pos rfl, z5a l a1 i1 i3 u3 hl a0 a2 h1 h2 (fun e h => hi e 3 h), Option.bind_some, Bool.true_and]
   show (if thR f3 i3 (knC l a1 n i1) a1 _ _ = true then _ else _) = _
   cases hC : thR f3 i3 (knC l a1 n i1) a1 (z8 l a1).f3 ((z8 l a1).f4.length : Int) <;> rfl
theorem zaV (i4 : Int) (i5 : Bool) {i6 i7 : List Int} : xd.f i4 i5 i6 i7 = some (z2B i4 i5 i6 i7) := by
 unfold xd.f z2B
 by_cases h0 : i4 = 0
 ·rw [if_pos h0, dT h0, Bool.true_and]
  cases i5 with
  | true => rfl
  | false =>
   rw [if_neg Bool.false_ne_true]
   show _ = some (true && _)
   rw [Bool.true_and, xV (l := i6), xV (l := i7)]
   by_cases h6 : (i6.length : Int) = 0
   ·rw [if_pos h6, dT h6, Bool.true_and]; rfl
   ·rw [if_neg h6, dF h6, Bool.false_and]
 ·rw [if_neg h0, dF h0, Bool.false_and]
theorem z6R (k : Nat) (b : Bool) (i0 i1 i2 i3 i4 : Int) (i5 : Bool) (i6 i7 : List Int) (nm : ByteArray) (f1 f2 f3 : Int) (s4 : Bool) : zC.j0 (k + 1) b i0 i1 i2 i3 i4 i5 i6 i7 nm f1 f2 f3 s4 =
 if b = true then some false else (if s4 = true then (if i4 = 0 then ((yN.f k i4 i5 i6 i7).bind fun t => some t) else some false) else ((xd.f i4 i5 i6 i7).bind fun t => some t)) := rfl
theorem z86 {i0 i1 i2 i3 i4 : Int} {i5 : Bool} {i6 i7 : List Int} {nm : ByteArray} {f1 f2 f3 : Int} {s4 : Bool} (h : yr.f i0 = some (nm, f1, f2, f3, s4, true)) (d6 : dgB i6 = true) (d7 : dgB i7 = true) :
 Ev (fun k => zC.f k i0 i1 i2 i3 i4 i5 i6 i7) ((if s4 = true then decide (i4 = 0) && z5m i4 i5 i6 i7 else z2B i4 i5 i6 i7) && (gB f1 i1 && (gB f2 i2 && gB f3 i3))) := by
 have e6 := z2O.1 d6
 have e7 := z2O.1 d7
 have no : ∀ b : Bool, b = false → Ev (fun k => zC.j0 k true i0 i1 i2 i3 i4 i5 i6 i7 nm f1 f2 f3 s4) b := fun b hb => by
  subst hb
  exact Ev.step (f := fun _ => some false) (fun k => by rw [z6R]; exact if_pos rfl) (Ev.now _)
 unfold zC.f
 rw [h]
 simp only [Option.bind_some, zbD, if_true]
 cases g1 : gB f1 i1 with
 | false => exact Ev.congr (fun k => if_neg Bool.false_ne_true) (no _ (by simp))
 | true =>
  refine Ev.congr (fun k => if_pos rfl) ?_
  cases g2 : gB f2 i2 with
  | false => exact Ev.congr (fun k => if_neg Bool.false_ne_true) (no _ (by simp))
  | true =>
   refine Ev.congr (fun k => if_pos rfl) ?_
   cases g3 : gB f3 i3 with
   | false => exact no _ (by simp)
   | true =>
    simp only [Bool.and_true, Bool.not_true]
    cases s4 with
    | true =>
     rw [if_pos rfl]
     by_cases h4 : i4 = 0
     ·rw [dT h4, Bool.true_and]
      refine Ev.step (f := fun k => (yN.f k i4 i5 i6 i7).bind fun t => some t) (fun k => ?_) (Ev.bind (f := fun _ t => some t) (z9m i4 i5 e6.1 e7.1 e6.2 e7.2) (Ev.now _))
      rw [z6R, if_neg Bool.false_ne_true, if_pos rfl, if_pos h4]
     ·rw [dF h4, Bool.false_and]
      refine Ev.step (f := fun _ => some false) (fun k => ?_) (Ev.now _)
      rw [z6R, if_neg Bool.false_ne_true, if_pos rfl, if_neg h4]
    | false =>
     rw [if_neg Bool.false_ne_true]
     refine Ev.step (f := fun _ => some (z2B i4 i5 i6 i7)) (fun k => ?_) (Ev.now _)
     rw [z6R, if_neg Bool.false_ne_true, if_neg Bool.false_ne_true, zaV, Option.bind_some]
theorem z88 {i0 i1 i2 i3 i4 : Int} {i5 : Bool} {i6 i7 : List Int} {nm : ByteArray} {f1 f2 f3 : Int} {s4 : Bool} (h : yr.f i0 = some (nm, f1, f2, f3, s4, false)) :
 Ev (fun k => zC.f k i0 i1 i2 i3 i4 i5 i6 i7) false := by
 unfold zC.f
 rw [h]
 refine Ev.step (f := fun _ => some false) (fun k => ?_) (Ev.now _)
 simp only [Option.bind_some]
 rw [if_neg Bool.false_ne_true]
 rw [z6R, if_pos rfl]
theorem zam (l : List S50) (a1 i0 i1 i2 i3 i4 : Int) (i5 : Bool) (i6 i7 : List Int) (d6 : dgB i6 = true) (d7 : dgB i7 = true) (hl : z3I l) (a0 : 0 ≤ a1) (a2 : a1 < (l.length : Int)) (h1 : 1 ≤ (z8 l a1).f3) (h2 : (z8 l a1).f3 ≤ 8192) :
 ∃ (b c : Bool) (nm : ByteArray) (s1 s2 s3 : Int) (s4 : Bool) (s5 s6 : Int) (ok : Bool), Ev (fun k => zC.f k i0 i1 i2 i3 i4 i5 i6 i7) b ∧ (b = true → xz.f l a1 i0 i1 i2 i3 i4 i5 i6 i7 = some c) ∧ xP.f i0 = some (nm, s1, s2, s3, s4, s5, s6, ok) ∧
  (ok = false → b = false) ∧ (ok = true → z0m.f i0 i1 i2 i3 i4 i5 i6 i7 nm s1 s2 s3 s4 s5 s6 = some b) ∧ (b = true → xX.f l a1 i0 i1 i2 i3 i4 i5 i6 i7 nm s1 s2 s3 s4 s5 s6 = some c) := by
 by_cases hn : i0 < 1 ∨ 27 ≤ i0
 ·obtain ⟨⟨nm, s1, s2, s3, s4, s5, s6, e1⟩, nm2, f1, f2, f3, f4, e2⟩ := z9q hn
  exact ⟨false, false, nm, s1, s2, s3, s4, s5, s6, false, z88 e2, fun h => (by cases h), e1, fun _ => rfl, fun h => (by cases h), fun h => (by cases h)⟩
 ·obtain ⟨nm, s1, s2, s3, s4, s5, s6, nm2, f1, f2, f3, e1, e2, ⟨o1, o2, o3⟩, ⟨u1, u2, u3⟩, hc⟩ := z9r (n := i0) (by omega) (by omega)
  refine ⟨_, knR l a1 i0 i1 i2 i3 f1 f2 f3, nm, s1, s2, s3, s4, s5, s6, true, z86 e2 d6 d7, fun _ => ?_, e1, fun h => (by cases h), fun _ => ?_, fun _ => ?_⟩
  ·unfold xz.f
   rw [if_pos ⟨a0, a2⟩, e2, Option.bind_some]
  ·unfold z0m.f
   rw [if_pos ⟨d6, d7⟩]
   show some (_ && (okF s1 i1 i0 s5 s6 && (okF s2 i2 i0 s5 s6 && okF s3 i3 i0 s5 s6))) = _
   rw [o1 i1, o2 i2, o3 i3]
  ·unfold xX.f
   rw [if_pos ⟨a0, a2⟩, z7N u1 u2 u3 hc l a1 i1 i2 i3 hl a0 a2 h1 h2]
def z6i (b c : Bool) (j n op : Int) : Int := if b = true then (if c = true then (if j = wrap64 (n - 1) then (if op = 20 then 0 else if op = 26 then 0 else 10) else 0) else 2) else 5
theorem zch (k : Nat) (x0 : List S50) (x1 x2 : Int) (x24 : Bool) (a0 a1 a2 a3 a4 : Int) (a5 : Bool) (a6 a7 : List Int) (s0 : ByteArray) (s1 s2 s3 : Int) (s4 : Bool) (s5 s6 : Int) :
 zr.j0 (k + 1) x0 x1 x2 x24 a0 a1 a2 a3 a4 a5 a6 a7 s0 s1 s2 s3 s4 s5 s6 = if x24 = true then (some 5) else ((xX.f x0 x1 a0 a1 a2 a3 a4 a5 a6 a7 s0 s1 s2 s3 s4 s5 s6).bind fun t220 => (if t220 = true then (if 0 ≤ x1 then (if x1 < (x0.length : Int) then (if x2 = (wrap64 ((((z8 x0 x1).f4).length : Int) - 1)) then (if a0 = 20 then (some 0) else (if a0 = 26 then (some 0) else (some 10))) else (some 0)) else (none)) else (none)) else (some 2))) := rfl
theorem zan (l : List S50) (a1 j : Int) (x : S63) (hx : zb (z8 l a1).f4 j = x) (a0 : 0 ≤ a1) (a2 : a1 < (l.length : Int)) (j0 : 0 ≤ j) (j2 : j < ((z8 l a1).f4.length : Int)) {b c : Bool} {nm : ByteArray} {s1 s2 s3 : Int} {s4 : Bool} {s5 s6 : Int} {ok : Bool}
 (e : xP.f x.f0 = some (nm, s1, s2, s3, s4, s5, s6, ok)) (q1 : ok = false → b = false) (q2 : ok = true → z0m.f x.f0 x.f1 x.f2 x.f3 x.f4.f0 x.f4.f1 x.f4.f2 x.f4.f3 nm s1 s2 s3 s4 s5 s6 = some b) (q3 : b = true → xX.f l a1 x.f0 x.f1 x.f2 x.f3 x.f4.f0 x.f4.f1 x.f4.f2 x.f4.f3 nm s1 s2 s3 s4 s5 s6 = some c) :
 Ev (fun k => zr.f k l a1 j) (z6i b c j ((z8 l a1).f4.length : Int) x.f0) := by
 have no : b = false → Ev (fun k => zr.j0 k l a1 j true x.f0 x.f1 x.f2 x.f3 x.f4.f0 x.f4.f1 x.f4.f2 x.f4.f3 nm s1 s2 s3 s4 s5 s6) (z6i b c j ((z8 l a1).f4.length : Int) x.f0) := fun hb => by
  subst hb
  exact Ev.step (f := fun _ => some 5) (fun k => by rw [zch]; exact if_pos rfl) (Ev.now _)
 unfold zr.f
 refine Ev.congr (fun k => (if_pos a0).trans ((if_pos a2).trans ((if_pos j0).trans (if_pos j2)))) ?_
 simp only [hx, e, Option.bind_some]
 cases ok with
 | false => exact Ev.congr (fun k => if_neg Bool.false_ne_true) (no (q1 rfl))
 | true =>
  refine Ev.congr (fun k => if_pos rfl) ?_
  rw [q2 rfl]
  simp only [Option.bind_some]
  cases b with
  | false => exact no rfl
  | true =>
   refine Ev.step (f := fun _ => some (z6i true c j ((z8 l a1).f4.length : Int) x.f0)) (fun k => ?_) (Ev.now _)
   rw [zch, if_neg (by decide), q3 rfl, Option.bind_some]
   unfold z6i
   rw [if_pos rfl]
   cases c with
   | false => rfl
   | true =>
    rw [if_pos rfl, if_pos rfl, if_pos a0, if_pos a2]
    by_cases h1 : j = wrap64 (((z8 l a1).f4.length : Int) - 1)
    ·rw [if_pos h1, if_pos h1]
     by_cases h2 : x.f0 = 20
     ·rw [if_pos h2, if_pos h2]
     rw [if_neg h2, if_neg h2]
     by_cases h3 : x.f0 = 26
     ·rw [if_pos h3, if_pos h3]
     ·rw [if_neg h3, if_neg h3]
    ·rw [if_neg h1, if_neg h1]
structure Cut (l : List S50) : Prop where
 small : z3I l
 dig : ∀ i j : Int, 0 ≤ i → i < (l.length : Int) → 0 ≤ j → j < ((z8 l i).f4.length : Int) → dgB (zb (z8 l i).f4 j).f4.f2 = true ∧ dgB (zb (z8 l i).f4 j).f4.f3 = true
 len : l.length ≤ 1000000000
 ins : ∀ i : Int, 0 ≤ i → i < (l.length : Int) → (z8 l i).f4.length ≤ 1000000000
theorem zce (k : Nat) (x0 : List S50) (x5 x18 x19 x34 x35 : Int) : zt.l1 (k + 1) x0 x5 x18 x19 x34 x35 = if x35 < x34 then ((zr.f k x0 x5 x35).bind fun t224 => (if t224 = 0 then (zt.l1 k x0 x5 x18 x19 x34 (wrap64 (x35 + 1))) else (some (x5, x35, t224)))) else (zt.l0 k x0 x18 (wrap64 (x19 + 1))) := by
 conv => lhs; unfold zt.l1
theorem za1 (k : Nat) (x0 : List S50) (x18 x19 : Int) : zt.l0 (k + 1) x0 x18 x19 = if x19 < x18 then ((z0J.f x0 x19).bind fun t222 => (if t222 = 0 then (if 0 ≤ x19 then (if x19 < (x0.length : Int) then (zt.l1 k x0 x19 x18 x19 (((z8 x0 x19).f4).length : Int) 0) else (none)) else (none)) else (some (x19, 0, t222)))) else (some (0, 0, 0)) := by
 conv => lhs; unfold zt.l0
theorem z8L (k : Nat) (x0 : List S50) (x5 : Int) : zh.l0 (k + 1) x0 x5 = if x5 < (x0.length : Int) then ((z0h.f x0 x5).bind fun t346 => (if t346 = 0 then (if 0 ≤ x5 then (zh.l1 k x0 x5 ((z8 x0 x5).f4) 0) else (none)) else (some (x5, 0, t346)))) else (some (0, 0, 0)) := by
 conv => lhs; unfold zh.l0
theorem zaR (k : Nat) (x0 : List S50) (x5 : Int) (x7 : List S63) (x8 : Int) : zh.l1 (k + 1) x0 x5 x7 x8 = if x8 < (x7.length : Int) then (if 0 ≤ x8 then ((zC.f k ((zb x7 x8).f0) ((zb x7 x8).f1) ((zb x7 x8).f2) ((zb x7 x8).f3) ((zb x7 x8).f4.f0) ((zb x7 x8).f4.f1) ((zb x7 x8).f4.f2) ((zb x7 x8).f4.f3)).bind fun t349 => (if t349 = true then ((xz.f x0 x5 ((zb x7 x8).f0) ((zb x7 x8).f1) ((zb x7 x8).f2) ((zb x7 x8).f3) ((zb x7 x8).f4.f0) ((zb x7 x8).f4.f1) ((zb x7 x8).f4.f2) ((zb x7 x8).f4.f3)).bind fun t351 => (if t351 = true then (if x8 = (wrap64 ((x7.length : Int) - 1)) then (if ((zb x7 x8).f0) = 20 then (zh.l1 k x0 x5 x7 (wrap64 (x8 + 1))) else (if ((zb x7 x8).f0) = 26 then (zh.l1 k x0 x5 x7 (wrap64 (x8 + 1))) else (some (x5, x8, 10)))) else (zh.l1 k x0 x5 x7 (wrap64 (x8 + 1)))) else (some (x5, x8, 2)))) else (some (x5, x8, 5)))) else (none)) else (zh.l0 k x0 (wrap64 (x5 + 1))) := by
 conv => lhs; unfold zh.l1
theorem z30 {m n : Int} (h0 : 0 ≤ m) (h1 : m < n) (h2 : n ≤ 1000000000) : wrap64 (m + 1) = m + 1 := by unfold wrap64; omega
theorem z8n {l : List S50} (hC : Cut l) (a1 : Int) (a0 : 0 ≤ a1) (a2 : a1 < (l.length : Int)) (h1 : 1 ≤ (z8 l a1).f3) (h2 : (z8 l a1).f3 ≤ 8192) {R : Int × Int × Int} (e1 : Ev (fun k => zt.l0 k l (l.length : Int) (a1 + 1)) R) (e2 : Ev (fun k => zh.l0 k l (a1 + 1)) R) :
 ∀ (n : Nat) (j : Int), 0 ≤ j → j + n = ((z8 l a1).f4.length : Int) → ∃ r, Ev (fun k => zt.l1 k l a1 (l.length : Int) a1 ((z8 l a1).f4.length : Int) j) r ∧ Ev (fun k => zh.l1 k l a1 (z8 l a1).f4 j) r
 | 0, j, j0, hj => by
  have hn := hC.len
  have w1 := z30 a0 a2 (by omega)
  refine ⟨R, Ev.step (fun k => ?_) e1, Ev.step (fun k => ?_) e2⟩
  ·rw [zce, if_neg (by omega), w1]
  ·rw [zaR, if_neg (by omega), w1]
 | n + 1, j, j0, hj => by
  have hn := hC.ins a1 a0 a2
  have j2 : j < ((z8 l a1).f4.length : Int) := by omega
  have w1 := z30 j0 j2 (by omega)
  obtain ⟨x, hx⟩ : ∃ x, zb (z8 l a1).f4 j = x := ⟨_, rfl⟩
  obtain ⟨d6, d7⟩ := hC.dig a1 j a0 a2 j0 j2
  rw [hx] at d6 d7
  obtain ⟨b, c, nm, s1, s2, s3, s4, s5, s6, ok, q0, q4, e, q1, q2, q3⟩ := zam l a1 x.f0 x.f1 x.f2 x.f3 x.f4.f0 x.f4.f1 x.f4.f2 x.f4.f3 d6 d7 hC.small a0 a2 h1 h2
  have I := zan l a1 j x hx a0 a2 j0 j2 e q1 q2 q3
  obtain ⟨r, g1, g2⟩ := z8n hC a1 a0 a2 h1 h2 e1 e2 n (j + 1) (by omega) (by omega)
  have C : ∀ v r', z6i b c j ((z8 l a1).f4.length : Int) x.f0 = v → Ev (fun k => if v = 0 then zt.l1 k l a1 (l.length : Int) a1 ((z8 l a1).f4.length : Int) (j + 1) else some (a1, j, v)) r' → Ev (fun k => zt.l1 k l a1 (l.length : Int) a1 ((z8 l a1).f4.length : Int) j) r' := fun v r' hv he => by
   rw [hv] at I
   exact Ev.step (f := fun k => (zr.f k l a1 j).bind fun t => if t = 0 then zt.l1 k l a1 (l.length : Int) a1 ((z8 l a1).f4.length : Int) (j + 1) else some (a1, j, t)) (fun k => by rw [zce, if_pos j2, w1]) (Ev.bind (f := fun k t => if t = 0 then zt.l1 k l a1 (l.length : Int) a1 ((z8 l a1).f4.length : Int) (j + 1) else some (a1, j, t)) I he)
  have T : ∀ r', Ev (fun k => if b = true then ((xz.f l a1 x.f0 x.f1 x.f2 x.f3 x.f4.f0 x.f4.f1 x.f4.f2 x.f4.f3).bind fun t351 => (if t351 = true then (if j = (wrap64 (((z8 l a1).f4.length : Int) - 1)) then (if x.f0 = 20 then (zh.l1 k l a1 (z8 l a1).f4 (j + 1)) else (if x.f0 = 26 then (zh.l1 k l a1 (z8 l a1).f4 (j + 1)) else (some (a1, j, 10)))) else (zh.l1 k l a1 (z8 l a1).f4 (j + 1))) else (some (a1, j, 2)))) else (some (a1, j, 5))) r' → Ev (fun k => zh.l1 k l a1 (z8 l a1).f4 j) r' := fun r' he => by
   refine Ev.step (f := fun k => (zC.f k x.f0 x.f1 x.f2 x.f3 x.f4.f0 x.f4.f1 x.f4.f2 x.f4.f3).bind fun t => if t = true then ((xz.f l a1 x.f0 x.f1 x.f2 x.f3 x.f4.f0 x.f4.f1 x.f4.f2 x.f4.f3).bind fun t351 => (if t351 = true then (if j = (wrap64 (((z8 l a1).f4.length : Int) - 1)) then (if x.f0 = 20 then (zh.l1 k l a1 (z8 l a1).f4 (j + 1)) else (if x.f0 = 26 then (zh.l1 k l a1 (z8 l a1).f4 (j + 1)) else (some (a1, j, 10)))) else (zh.l1 k l a1 (z8 l a1).f4 (j + 1))) else (some (a1, j, 2)))) else (some (a1, j, 5))) (fun k => ?_) (Ev.bind (f := fun k t => if t = true then ((xz.f l a1 x.f0 x.f1 x.f2 x.f3 x.f4.f0 x.f4.f1 x.f4.f2 x.f4.f3).bind fun t351 => (if t351 = true then (if j = (wrap64 (((z8 l a1).f4.length : Int) - 1)) then (if x.f0 = 20 then (zh.l1 k l a1 (z8 l a1).f4 (j + 1)) else (if x.f0 = 26 then (zh.l1 k l a1 (z8 l a1).f4 (j + 1)) else (some (a1, j, 10)))) else (zh.l1 k l a1 (z8 l a1).f4 (j + 1))) else (some (a1, j, 2)))) else (some (a1, j, 5))) q0 he)
   rw [zaR, if_pos j2, if_pos j0, hx, w1]
  cases b with
  | false => exact ⟨(a1, j, 5), C 5 _ rfl (Ev.now _), T _ (Ev.now _)⟩
  | true =>
   rw [q4 rfl] at T
   cases c with
   | false => exact ⟨(a1, j, 2), C 2 _ rfl (Ev.now _), T _ (Ev.now _)⟩
   | true =>
    by_cases k1 : j = wrap64 (((z8 l a1).f4.length : Int) - 1)
    ·by_cases k2 : x.f0 = 20
     ·exact ⟨r, C 0 _ (by unfold z6i; rw [if_pos rfl, if_pos rfl, if_pos k1, if_pos k2]) g1, T _ (Ev.congr (fun k => (if_pos k1).trans (if_pos k2)) g2)⟩
     ·by_cases k3 : x.f0 = 26
      ·exact ⟨r, C 0 _ (by unfold z6i; rw [if_pos rfl, if_pos rfl, if_pos k1, if_neg k2, if_pos k3]) g1, T _ (Ev.congr (fun k => (if_pos k1).trans ((if_neg k2).trans (if_pos k3))) g2)⟩
      ·exact ⟨(a1, j, 10), C 10 _ (by unfold z6i; rw [if_pos rfl, if_pos rfl, if_pos k1, if_neg k2, if_neg k3]) (Ev.now _), T _ (Ev.congr (fun k => (if_pos k1).trans ((if_neg k2).trans (if_neg k3))) (Ev.now _))⟩
    ·exact ⟨r, C 0 _ (by unfold z6i; rw [if_pos rfl, if_pos rfl, if_neg k1]) g1, T _ (Ev.congr (fun k => if_neg k1) g2)⟩
theorem z99 {l : List S50} {m : Nat} (h : z0n l m = 0) : 1 ≤ (z8 l (m : Int)).f3 ∧ (z8 l (m : Int)).f3 ≤ 8192 := by
 unfold z0n at h
 by_cases h1 : z1r (z8 l (m : Int)).f0 = false
 ·rw [if_pos h1] at h; exact absurd h (by decide)
 rw [if_neg h1] at h
 by_cases h2 : decide (∀ i < m, (z8 l (i : Int)).f0.toList ≠ (z8 l (m : Int)).f0.toList) = false
 ·rw [if_pos h2] at h; exact absurd h (by decide)
 rw [if_neg h2] at h
 by_cases h3 : decide (∀ i < ((z8 l (m : Int)).f1 ++ (z8 l (m : Int)).f2).length, z17 (yg ((z8 l (m : Int)).f1 ++ (z8 l (m : Int)).f2) (i : Int)).f0 (yg ((z8 l (m : Int)).f1 ++ (z8 l (m : Int)).f2) (i : Int)).f1 = true) = false
 ·rw [if_pos h3] at h; exact absurd h (by decide)
 rw [if_neg h3] at h
 by_cases h4 : z2D (z8 l (m : Int)) = true
 ·rw [if_pos h4] at h; exact absurd h (by decide)
 have h5 : z2D (z8 l (m : Int)) = false := by simpa using h4
 unfold z2D at h5
 simp only [Bool.or_eq_false_iff, decide_eq_false_iff_not] at h5
 omega
theorem z8m {l : List S50} (hC : Cut l) : ∀ (n : Nat) (i : Int), 0 ≤ i → i + n = (l.length : Int) → ∃ r, Ev (fun k => zt.l0 k l (l.length : Int) i) r ∧ Ev (fun k => zh.l0 k l i) r
 | 0, i, i0, hi => ⟨(0, 0, 0), Ev.step (f := fun _ => some (0, 0, 0)) (fun k => by rw [za1, if_neg (by omega)]) (Ev.now _), Ev.step (f := fun _ => some (0, 0, 0)) (fun k => by rw [z8L, if_neg (by omega)]) (Ev.now _)⟩
 | n + 1, i, i0, hi => by
  have i2 : i < (l.length : Int) := by omega
  obtain ⟨R, e1, e2⟩ := z8m hC n (i + 1) (by omega) (by omega)
  have hH : z4Q l i = some (z0n l i.toNat) := by
   unfold z4Q
   rw [if_pos ⟨i0, i2, hC.small i i0 i2⟩]
  by_cases h0 : z0n l i.toNat = 0
  ·have hb := z99 h0
   rw [Int.toNat_of_nonneg i0] at hb
   obtain ⟨r, g1, g2⟩ := z8n hC i i0 i2 hb.1 hb.2 e1 e2 (z8 l i).f4.length 0 (Int.le_refl _) (by omega)
   refine ⟨r, Ev.step (fun k => ?_) g1, Ev.step (fun k => ?_) g2⟩
   ·rw [za1, if_pos i2, show z0J.f l i = some (z0n l i.toNat) from hH, Option.bind_some, if_pos h0, if_pos i0, if_pos i2]
   ·rw [z8L, if_pos i2, show z0h.f l i = some (z0n l i.toNat) from hH, Option.bind_some, if_pos h0, if_pos i0]
  ·refine ⟨(i, 0, z0n l i.toNat), Ev.step (f := fun _ => some (i, 0, z0n l i.toNat)) (fun k => ?_) (Ev.now _), Ev.step (f := fun _ => some (i, 0, z0n l i.toNat)) (fun k => ?_) (Ev.now _)⟩
   ·rw [za1, if_pos i2, show z0J.f l i = some (z0n l i.toNat) from hH, Option.bind_some, if_neg h0]
   ·rw [z8L, if_pos i2, show z0h.f l i = some (z0n l i.toNat) from hH, Option.bind_some, if_neg h0]
theorem zcf (k : Nat) (x0 : List S50) (b : Bool) : zt.j0 (k + 1) x0 b = if b = true then (some (0, 0, 3)) else (zt.l0 k x0 (x0.length : Int) 0) := by
 conv => lhs; unfold zt.j0
theorem zaZ (k : Nat) (x0 : List S50) (b : Bool) : zh.j0 (k + 1) x0 b = if b = true then (some (0, 0, 3)) else (zh.l0 k x0 0) := by
 conv => lhs; unfold zh.j0
theorem z7s {l : List S50} (hC : Cut l) : ∃ r, Ev (fun k => zt.f k l) r ∧ Ev (fun k => zh.f k l) r := by
 have J : ∀ b : Bool, ∃ r, Ev (fun k => zt.j0 k l b) r ∧ Ev (fun k => zh.j0 k l b) r := fun b => by
  cases b with
  | true => exact ⟨(0, 0, 3), Ev.step (f := fun _ => some (0, 0, 3)) (fun k => by rw [zcf, if_pos rfl]) (Ev.now _), Ev.step (f := fun _ => some (0, 0, 3)) (fun k => by rw [zaZ, if_pos rfl]) (Ev.now _)⟩
  | false =>
   obtain ⟨r, g1, g2⟩ := z8m hC l.length 0 (Int.le_refl _) (by omega)
   exact ⟨r, Ev.step (fun k => by rw [zcf, if_neg Bool.false_ne_true]) g1, Ev.step (fun k => by rw [zaZ, if_neg Bool.false_ne_true]) g2⟩
 by_cases h : (l.length : Int) < 1
 ·obtain ⟨r, g1, g2⟩ := J true
  exact ⟨r, Ev.congr (fun k => if_pos h) g1, Ev.congr (fun k => if_pos h) g2⟩
 ·obtain ⟨r, g1, g2⟩ := J (decide ((l.length : Int) > 32))
  exact ⟨r, Ev.congr (fun k => if_neg h) g1, Ev.congr (fun k => if_neg h) g2⟩
theorem w64 {n : Int} (h0 : -9223372036854775808 ≤ n) (h1 : n < 9223372036854775808) : wrap64 n = n := by unfold wrap64; omega
theorem z3K {i : Nat} (h : i ≤ 100000) : wrap64 ((i : Int) + 1) = ((i + 1 : Nat) : Int) := by rw [w64 (by omega) (by omega)]; rfl
theorem z0r {α β : Type} {a : Option α} {x : α} {f : α → Option β} {y : Option β} (h : a = some x) (h2 : f x = y) : a.bind f = y := by rw [h]; exact h2
theorem zaT (l : List xx) (i : Nat) (h : i < l.length) : yg l (i : Int) = l[i] := by
 unfold yg
 rw [Int.toNat_natCast, List.getD_eq_getElem?_getD, List.getElem?_eq_getElem h]
 rfl
theorem z8N (l : List S63) (i : Nat) (h : i < l.length) : zb l (i : Int) = l[i] := by
 unfold zb
 rw [Int.toNat_natCast, List.getD_eq_getElem?_getD, List.getElem?_eq_getElem h]
 rfl
theorem z6t (l : List S50) (i : Nat) (h : i < l.length) : z8 l (i : Int) = l[i] := by
 unfold z8
 rw [Int.toNat_natCast, List.getD_eq_getElem?_getD, List.getElem?_eq_getElem h]
 rfl
def z9T (x : xx) : Prop := x.f1.length ≤ 100000
def Sd (x : S61) : Prop := dgB x.f2 = true ∧ dgB x.f3 = true
def Sc (x : S50) : Prop := z3p x = true ∧ x.f4.length ≤ 1000 ∧ ∀ t ∈ x.f4, Sd t.f4
def Wd (l : List S50) : Prop := ∀ r ∈ l, ∀ x ∈ r.f4, dOk x.f4.f2 ∧ dOk x.f4.f3
theorem z6p (a b : Nat) : mn (a : Int) (b : Int) = ((min a b : Nat) : Int) := by
 unfold mn
 split <;> omega
theorem z90 (a : Int) (l : List Int) : ∃ r : List Int, zS.f a l = some (a, r) ∧ r.length ≤ 5 := by
 refine ⟨l.take (min l.length 5), ?_, by rw [List.length_take]; omega⟩
 unfold zS.f
 refine z0r (x := ([] : List Int)) rfl ?_
 rw [show (5 : Int) = ((5 : Nat) : Int) from rfl, z6p, if_pos (by omega), if_pos (by omega), Int.toNat_natCast, if_pos (by rw [List.length_take]; show 0 + _ < _; omega), List.nil_append]
theorem z41 (l : List xx) : ∃ r : List xx, Ev (fun k => zE.f k l) r ∧ r.length ≤ 66 ∧ ∀ t ∈ r, z9T t := by
 have hL : ∀ (d i : Nat) (acc : List xx), min l.length 66 - i = d → i ≤ min l.length 66 → acc.length ≤ i → (∀ t ∈ acc, z9T t) →
  ∃ r : List xx, Ev (fun k => zE.l0 k l acc (i : Int)) r ∧ r.length ≤ 66 ∧ ∀ t ∈ r, z9T t := by
  intro d
  induction d with
  | zero =>
   intro i acc h1 h2 h3 h4
   refine ⟨acc, Ev.step (f := fun _ => some acc) (fun k => ?_) (Ev.now _), by omega, h4⟩
   simp only [zE.l0]
   by_cases h : (i : Int) < (l.length : Int)
   ·rw [if_pos h, if_neg (by omega)]
   ·rw [if_neg h]
  | succ d ih =>
   intro i acc h1 h2 h3 h4
   have hi : i < l.length := by omega
   have hrd := zaT l i hi
   obtain ⟨q, hq, hql⟩ := z90 l[i].f0 l[i].f1
   obtain ⟨r, e, hr⟩ := ih (i + 1) (acc ++ [(⟨l[i].f0, q⟩ : xx)]) (by omega) (by omega) (by simp only [List.length_append, List.length_cons, List.length_nil]; omega) (fun t ht => by
    rcases List.mem_append.1 ht with ht | ht
    ·exact h4 t ht
    ·rw [List.mem_singleton] at ht; rw [ht]; show q.length ≤ 100000; omega)
   refine ⟨r, Ev.step (fun k => ?_) e, hr⟩
   simp only [zE.l0]
   rw [if_pos (by omega), if_pos (by omega), if_pos (by omega), hrd]
   refine z0r hq ?_
   rw [if_pos (by omega), z3K (by omega)]
 exact hL _ 0 [] rfl (Nat.zero_le _) (Nat.zero_le _) (fun t h => by cases h)
theorem za4 (x : S61) (h2 : dOk x.f2) (h3 : dOk x.f3) : ∃ (p q : List Int) (u : Int), zy.f x.f0 x.f1 x.f2 x.f3 260 = some (x.f0, x.f1, p, q, u) ∧ dgB p = true ∧ dgB q = true := by
 have h130 : mn 130 (mx 2 (wrap64 (Int.tdiv 260 2))) = ((130 : Nat) : Int) := by
  rw [show Int.tdiv 260 2 = 130 from rfl, w64 (by omega) (by omega)]
  unfold mx mn
  repeat (split)
  all_goals omega
 refine ⟨x.f2.take (min x.f2.length 130), x.f3.take (min x.f3.length 130), wrap64 (((x.f2.take (min x.f2.length 130)).length : Int) + ((x.f3.take (min x.f3.length 130)).length : Int)), ?_, z2O.2 ⟨by rw [List.length_take]; omega, xc h2 _⟩, z2O.2 ⟨by rw [List.length_take]; omega, xc h3 _⟩⟩
 unfold zy.f
 refine z0r (x := ([] : List Int)) rfl ?_
 rw [h130, z6p, z6p, if_pos (by omega), if_pos (by omega), Int.toNat_natCast, Int.toNat_natCast, if_pos (by rw [List.length_take]; show 0 + _ < _; omega), List.nil_append]
 refine z0r (x := x.f2.take (min x.f2.length 130)) rfl ?_
 refine z0r (x := ([] : List Int)) rfl ?_
 rw [if_pos (by omega), if_pos (by omega), if_pos (by rw [List.length_take]; show 0 + _ < _; omega), List.nil_append]
 exact z0r (x := x.f3.take (min x.f3.length 130)) rfl rfl
theorem zcP (l : List S50) (hW : Wd l) : ∀ (d i m : Nat) (acc : List S50), min l.length 34 - i = d → i ≤ min l.length 34 → m ≤ 400 → acc.length ≤ i → (∀ t ∈ acc, Sc t) →
 ∃ r : List S50, Ev (fun k => zm.l0 k l (m : Int) acc (i : Int)) r ∧ r.length ≤ 100000 ∧ ∀ t ∈ r, Sc t := by
 intro d
 induction d with
 | zero =>
  intro i m acc h1 h2 hm h3 h4
  refine ⟨acc, ⟨2, fun k hk => ?_⟩, by omega, h4⟩
  obtain ⟨j, rfl⟩ : ∃ j, k = j + 1 + 1 := ⟨k - 2, by omega⟩
  have hj1 : zm.j1 (j + 1) l (m : Int) acc (i : Int) false = some acc := by
   simp only [zm.j1]
   rw [if_neg (by decide)]
  show zm.l0 (j + 1 + 1) l (m : Int) acc (i : Int) = some acc
  simp only [zm.l0]
  by_cases h : (i : Int) < (l.length : Int)
  ·rw [if_pos h, dF (by omega)]; exact hj1
  ·rw [if_neg h]; exact hj1
 | succ d ih =>
  intro i m acc h1 h2 hm h3 h4
  have hi : i < l.length := by omega
  have hrd := z6t l i hi
  have hX : ∀ x ∈ l[i].f4, dOk x.f4.f2 ∧ dOk x.f4.f3 := hW l[i] (List.getElem_mem hi)
  generalize l[i] = x at *
  obtain ⟨ps, ⟨K1, e1⟩, hps, hps2⟩ := z41 x.f1
  obtain ⟨qs, ⟨K2, e2⟩, hqs, hqs2⟩ := z41 x.f2
  dsimp only at e1 e2
  obtain ⟨nm, hnm⟩ : ∃ nm, nm = x.f0.extract 0 (min x.f0.size 26) := ⟨_, rfl⟩
  have hns : nm.size ≤ 100000 := by rw [hnm, ByteArray.size_extract]; omega
  have hI : ∀ (d2 j n : Nat) (ac : List S63), n = d2 → j + n ≤ 400 → ac.length = j → (∀ t ∈ ac, Sd t.f4) →
   ∃ r : List S50, Ev (fun k => zm.l1 k l (n : Int) acc (i : Int) (j : Int) x.f0 x.f1 x.f2 x.f3 x.f4 nm ps qs x.f3 ac) r ∧ r.length ≤ 100000 ∧ ∀ t ∈ r, Sc t := by
   intro d2
   induction d2 with
   | zero =>
    intro j n ac g1 g2 g3 g4
    subst g1
    obtain ⟨r, e, hr⟩ := ih (i + 1) 0 (acc ++ [(⟨nm, ps, qs, x.f3, ac⟩ : S50)]) (by omega) (by omega) (by omega) (by simp only [List.length_append, List.length_cons, List.length_nil]; omega) (fun t ht => by
     rcases List.mem_append.1 ht with ht | ht
     ·exact h4 t ht
     ·rw [List.mem_singleton] at ht; rw [ht]; exact ⟨z0X.2 ⟨hns, by show ps.length ≤ _; omega, by show qs.length ≤ _; omega⟩, by show ac.length ≤ _; omega, g4⟩)
    refine ⟨r, Ev.step (fun k => ?_) e, hr⟩
    simp only [zm.l1]
    by_cases h : (j : Int) < (x.f4.length : Int)
    ·rw [if_pos h, if_neg (by omega), if_pos (by omega), z3K (by omega)]
    ·rw [if_neg h, if_pos (by omega), z3K (by omega)]
   | succ d2 ih2 =>
    intro j n ac g1 g2 g3 g4
    subst g1
    by_cases h : j < x.f4.length
    ·have hr4 := z8N x.f4 j h
     obtain ⟨p, q, u, hcr, hp, hq⟩ := za4 x.f4[j].f4 (hX x.f4[j] (List.getElem_mem h)).1 (hX x.f4[j] (List.getElem_mem h)).2
     obtain ⟨r, e, hr⟩ := ih2 (j + 1) d2 (ac ++ [(⟨x.f4[j].f0, x.f4[j].f1, x.f4[j].f2, x.f4[j].f3, (⟨x.f4[j].f4.f0, x.f4[j].f4.f1, p, q⟩ : S61)⟩ : S63)]) rfl (by omega) (by simp only [List.length_append, List.length_cons, List.length_nil]; omega) (fun t ht => by
      rcases List.mem_append.1 ht with ht | ht
      ·exact g4 t ht
      ·rw [List.mem_singleton] at ht; rw [ht]; exact ⟨hp, hq⟩)
     refine ⟨r, Ev.step (fun k => ?_) e, hr⟩
     simp only [zm.l1]
     rw [if_pos (by omega), if_pos (by omega), if_pos (by omega), hr4]
     refine z0r hcr ?_
     rw [if_pos (by omega), z3K (by omega), w64 (by omega) (by omega), show ((d2 + 1 : Nat) : Int) - 1 = (d2 : Int) from by omega]
    ·obtain ⟨r, e, hr⟩ := ih (i + 1) (d2 + 1) (acc ++ [(⟨nm, ps, qs, x.f3, ac⟩ : S50)]) (by omega) (by omega) (by omega) (by simp only [List.length_append, List.length_cons, List.length_nil]; omega) (fun t ht => by
      rcases List.mem_append.1 ht with ht | ht
      ·exact h4 t ht
      ·rw [List.mem_singleton] at ht; rw [ht]; exact ⟨z0X.2 ⟨hns, by show ps.length ≤ _; omega, by show qs.length ≤ _; omega⟩, by show ac.length ≤ _; omega, g4⟩)
     refine ⟨r, Ev.step (fun k => ?_) e, hr⟩
     simp only [zm.l1]
     rw [if_neg (by omega), if_pos (by omega), z3K (by omega)]
  obtain ⟨r, ⟨K3, e3⟩, hr⟩ := hI m 0 m [] rfl (by omega) rfl (fun t h => by cases h)
  dsimp only at e3
  refine ⟨r, ⟨K1 + K2 + K3 + 2, fun k hk => ?_⟩, hr⟩
  obtain ⟨j, rfl⟩ : ∃ j, k = j + 1 + 1 := ⟨k - 2, by omega⟩
  show zm.l0 (j + 1 + 1) l (m : Int) acc (i : Int) = some r
  simp only [zm.l0]
  rw [if_pos (by omega), dT (by omega)]
  simp only [zm.j1]
  rw [if_pos trivial, if_pos (by omega), if_pos (by omega), hrd, show (26 : Int) = ((26 : Nat) : Int) from rfl, z6p, if_pos (by omega), if_pos (by omega), Int.toNat_natCast, ← hnm]
  refine z0r (e1 j (by omega)) ?_
  refine z0r (e2 j (by omega)) ?_
  exact e3 j (by omega)
theorem zcQ (l : List S50) (hW : Wd l) : ∃ r : List S50, Ev (fun k => yz.f k l) r ∧ r.length ≤ 100000 ∧ ∀ t ∈ r, Sc t := by
 obtain ⟨r, ⟨K, e⟩, hr⟩ := zcP l hW _ 0 400 [] rfl (Nat.zero_le _) (Nat.le_refl _) (Nat.zero_le _) (fun t h => by cases h)
 exact ⟨r, ⟨K, fun k hk => z0r (e k hk) rfl⟩, hr⟩
theorem zcL {r : List S50} (h1 : r.length ≤ 100000) (h2 : ∀ t ∈ r, Sc t) : Cut r := by
 have A : ∀ i : Int, 0 ≤ i → i < (r.length : Int) → Sc (z8 r i) := fun i h0 hi => by
  obtain ⟨n, rfl⟩ := Int.eq_ofNat_of_zero_le h0
  rw [z6t r n (by omega)]
  exact h2 _ (List.getElem_mem _)
 refine ⟨fun i h0 hi => (A i h0 hi).1, fun i j h0 hi j0 hj => ?_, by omega, fun i h0 hi => by have := (A i h0 hi).2.1; omega⟩
 have B := (A i h0 hi).2.2
 obtain ⟨n, rfl⟩ := Int.eq_ofNat_of_zero_le j0
 rw [z8N _ n (by omega)]
 exact B _ (List.getElem_mem _)
def nxS (x : S63) (i : Int) : List Int := if x.f0 = 20 then [x.f1] else if x.f0 = 26 then [] else if x.f0 = 21 then [i + 1, x.f1] else if x.f0 = 22 then [i + 1, x.f2, x.f3] else [i + 1]
def nxL (L : List S63) (i : Nat) : List Int := nxS (zb L (i : Int)) (i : Int)
theorem z8I (L : List S63) (i : Nat) : (nxL L i).length ≤ 3 := by
 unfold nxL nxS
 repeat' split
 all_goals simp
inductive Rch (L : List S63) : Nat → Prop
 | zero : Rch L 0
 | step {i m : Nat} : Rch L i → (m : Int) ∈ nxL L i → Rch L m
structure Ok (L : List S63) : Prop where
 pos : 0 < L.length
 small : L.length ≤ 100000
 nexts : ∀ i : Nat, i < L.length → ∀ a ∈ nxL L i, 0 ≤ a ∧ a < (L.length : Int)
def mkd (M : List Bool) (i : Nat) : Bool := M.getD i false
theorem z0S {M : List Bool} {i : Nat} (h : i < M.length) (j : Nat) : mkd (M.set i true) j = if j = i then true else mkd M j := by
 unfold mkd
 rw [List.getD_eq_getElem?_getD, List.getD_eq_getElem?_getD, List.getElem?_set]
 by_cases e : i = j
 ·subst e; simp [h]
 ·rw [if_neg e, if_neg (fun h => e h.symm)]
theorem z6X {M : List Bool} {i j : Nat} (h : i < M.length) (hj : mkd M j = true) : mkd (M.set i true) j = true := by
 rw [z0S h]
 by_cases e : j = i
 ·rw [if_pos e]
 ·rw [if_neg e]; exact hj
theorem zcW {M : List Bool} {i : Nat} (h : mkd M i = true) : i < M.length := by
 unfold mkd at h
 rw [List.getD_eq_getElem?_getD] at h
 by_cases e : i < M.length
 ·exact e
 ·rw [List.getElem?_eq_none (by omega)] at h; cases h
def unm (M : List Bool) : Nat := M.count false
theorem z6x {M : List Bool} {i : Nat} (h : i < M.length) (hm : mkd M i = false) : unm (M.set i true) + 1 = unm M := by
 unfold unm
 have hi : M[i] = false := by
  unfold mkd at hm
  rw [List.getD_eq_getElem?_getD, List.getElem?_eq_getElem h] at hm
  exact hm
 have hp : 0 < M.count false := List.count_pos_iff.2 (hi ▸ List.getElem_mem h)
 rw [List.count_set h, hi]
 simp
 omega
theorem zaU (l : List Int) (i : Nat) (h : i < l.length) : rd l (i : Int) = l[i] := by
 unfold rd
 rw [Int.toNat_natCast, List.getD_eq_getElem?_getD, List.getElem?_eq_getElem h]
 rfl
theorem rdM (M : List Bool) (i : Int) : z1X false M i = mkd M i.toNat := rfl
theorem zcX (L : List S63) (i : Nat) (h : i < L.length) (hs : L.length ≤ 100000) (x : S63) (hx : zb L (i : Int) = x) : z1e.f x.f0 x.f1 x.f2 x.f3 x.f4.f0 x.f4.f1 x.f4.f2 x.f4.f3 (i : Int) = some (nxL L i) := by
 unfold z1e.f nxL nxS
 rw [hx, z3K (by omega)]
 push_cast
 by_cases h1 : x.f0 = 20
 ·rw [if_pos h1, if_pos h1]
 rw [if_neg h1, if_neg h1]
 by_cases h2 : x.f0 = 26
 ·rw [if_pos h2, if_pos h2]
 rw [if_neg h2, if_neg h2]
 by_cases h3 : x.f0 = 21
 ·rw [if_pos h3, if_pos h3]
 rw [if_neg h3, if_neg h3]
 by_cases h4 : x.f0 = 22
 ·rw [if_pos h4, if_pos h4]
 rw [if_neg h4, if_neg h4]
theorem zc3 (L : List S63) (i : Nat) (h : i < L.length) (hs : L.length ≤ 100000) : xp.f L (i : Int) = some (nxL L i) := by
 unfold xp.f nxL nxS
 rw [if_pos (by omega), if_pos (by omega), z3K (by omega)]
 push_cast
 generalize zb L (i : Int) = x
 by_cases h1 : x.f0 = 20
 ·rw [if_pos h1, if_pos h1]
 rw [if_neg h1, if_neg h1]
 by_cases h2 : x.f0 = 26
 ·rw [if_pos h2, if_pos h2]
 rw [if_neg h2, if_neg h2]
 by_cases h3 : x.f0 = 21
 ·rw [if_pos h3, if_pos h3]
 rw [if_neg h3, if_neg h3]
 by_cases h4 : x.f0 = 22
 ·rw [if_pos h4, if_pos h4]
 rw [if_neg h4, if_neg h4]
structure Fin (L : List S63) (M : List Bool) : Prop where
 len : M.length = L.length
 snd : ∀ i, mkd M i = true → Rch L i
 zero : mkd M 0 = true
 closed : ∀ i, mkd M i = true → ∀ a ∈ nxL L i, mkd M a.toNat = true
theorem Fin.iff {L : List S63} {M : List Bool} (h : Fin L M) (i : Nat) : mkd M i = true ↔ Rch L i :=
 ⟨h.snd i, fun r => by
  induction r with
  | zero => exact h.zero
  | step _ hm ih => have := h.closed _ ih _ hm; rwa [Int.toNat_natCast] at this⟩
theorem Fin.one {L : List S63} {M N : List Bool} (h : Fin L M) (g : Fin L N) : M = N := by
 apply List.ext_getElem (h.len.trans g.len.symm)
 intro i hi hj
 have e : mkd M i = mkd N i := by
  rw [Bool.eq_iff_iff, h.iff, g.iff]
 unfold mkd at e
 rw [List.getD_eq_getElem?_getD, List.getD_eq_getElem?_getD, List.getElem?_eq_getElem hi, List.getElem?_eq_getElem hj] at e
 exact e
theorem zay {L : List S63} (hs : L.length ≤ 100000) (t : List Int) (ht : ∀ a ∈ t, 0 ≤ a ∧ a < (L.length : Int)) (ht3 : t.length ≤ 3) :
 ∀ (d c : Nat) (M : List Bool) (W : List Int), c + d = t.length → M.length = L.length → W.length + unm M ≤ L.length →
  ∃ (M' : List Bool) (W' : List Int), M'.length = L.length ∧ W'.length + unm M' ≤ L.length ∧ 2 * unm M' + W'.length ≤ 2 * unm M + W.length ∧ (∀ i, mkd M i = true → mkd M' i = true) ∧
   (∀ a ∈ t.drop c, mkd M' a.toNat = true) ∧ (∀ i : Nat, mkd M' i = true → mkd M i = true ∨ (i : Int) ∈ t) ∧ (∀ i : Nat, mkd M' i = true → mkd M i = false → (i : Int) ∈ W') ∧ (∀ j ∈ W, j ∈ W') ∧ (∀ j ∈ W', j ∈ W ∨ ∃ i : Nat, j = (i : Int) ∧ mkd M' i = true) ∧
   ∀ R, Ev (fun k => zp.l0 k L M' W') R → Ev (fun k => zp.l1 k L M W t (t.length : Int) (c : Int)) R
 | 0, c, M, W, hc, hM, hW => ⟨M, W, hM, hW, Nat.le_refl _, fun _ h => h, fun a ha => (by rw [List.drop_eq_nil_of_le (by omega)] at ha; cases ha), fun _ h => .inl h, fun i h1 h2 => (by rw [h1] at h2; cases h2), fun _ h => h, fun _ h => .inl h,
  fun R e => Ev.step (fun k => by simp only [zp.l1]; rw [if_neg (by omega)]) e⟩
 | d + 1, c, M, W, hc, hM, hW => by
  have hcl : c < t.length := by omega
  have hrd := zaU t c hcl
  obtain ⟨a, ha⟩ : ∃ a, t[c] = a := ⟨_, rfl⟩
  have hmem : a ∈ t := ha ▸ List.getElem_mem hcl
  obtain ⟨q0, q1⟩ := ht a hmem
  obtain ⟨i, rfl⟩ := Int.eq_ofNat_of_zero_le q0
  have hi : i < L.length := by omega
  have hdrop : t.drop c = (i : Int) :: t.drop (c + 1) := by rw [List.drop_eq_getElem_cons hcl, ha]
  rw [ha] at hrd
  cases hm : mkd M i with
  | true =>
   obtain ⟨M', W', p1, p2, p3, p4, p5, p6, p7, p8, p9, p10⟩ := zay hs t ht ht3 d (c + 1) M W (by omega) hM hW
   refine ⟨M', W', p1, p2, p3, p4, fun b hb => ?_, p6, p7, p8, p9, fun R e => Ev.step (fun k => ?_) (p10 R e)⟩
   ·rw [hdrop] at hb
    rcases List.mem_cons.1 hb with rfl | hb
    ·rw [Int.toNat_natCast]; exact p4 i hm
    ·exact p5 b hb
   ·simp only [zp.l1]
    rw [if_pos (by omega), if_pos (by omega), if_pos (by omega), hrd, if_pos (by omega), if_pos (by omega), rdM, Int.toNat_natCast, hm, if_pos rfl, z3K (by omega)]
  | false =>
   have hiM : i < M.length := by omega
   have hu := z6x hiM hm
   obtain ⟨M', W', p1, p2, p3, p4, p5, p6, p7, p8, p9, p10⟩ := zay hs t ht ht3 d (c + 1) (M.set i true) (W ++ [(i : Int)]) (by omega) (by rw [List.length_set]; exact hM) (by rw [List.length_append, List.length_singleton]; omega)
   have hmi : mkd (M.set i true) i = true := by rw [z0S hiM, if_pos rfl]
   refine ⟨M', W', p1, p2, by rw [List.length_append, List.length_singleton] at p3; omega, fun j hj => p4 j (z6X hiM hj), fun b hb => ?_, fun j hj => ?_, fun j hj hj2 => ?_, fun j hj => p8 j (List.mem_append_left _ hj), fun j hj => ?_, fun R e => Ev.step (fun k => ?_) (p10 R e)⟩
   ·rw [hdrop] at hb
    rcases List.mem_cons.1 hb with rfl | hb
    ·rw [Int.toNat_natCast]; exact p4 i hmi
    ·exact p5 b hb
   ·rcases p6 j hj with h | h
    ·rw [z0S hiM] at h
     by_cases e : j = i
     ·subst e; exact .inr hmem
     ·rw [if_neg e] at h; exact .inl h
    ·exact .inr h
   ·by_cases e : j = i
    ·subst e; exact p8 _ (List.mem_append_right _ (List.mem_singleton.2 rfl))
    ·exact p7 j hj (by rw [z0S hiM, if_neg e]; exact hj2)
   ·rcases p9 j hj with h | h
    ·rcases List.mem_append.1 h with h | h
     ·exact .inl h
     ·rw [List.mem_singleton] at h; exact .inr ⟨i, h, p4 i hmi⟩
    ·exact .inr h
   ·simp only [zp.l1]
    rw [if_pos (by omega), if_pos (by omega), if_pos (by omega), hrd, if_pos (by omega), if_pos (by omega), rdM, Int.toNat_natCast, hm, if_neg Bool.false_ne_true, if_pos (by omega), z3K (by omega)]
theorem zdD {L : List S63} (hL : Ok L) : ∀ (m : Nat) (M : List Bool) (W : List Int), 2 * unm M + W.length ≤ m → M.length = L.length → W.length + unm M ≤ L.length → (∀ i, mkd M i = true → Rch L i) → mkd M 0 = true →
 (∀ j ∈ W, ∃ i : Nat, j = (i : Int) ∧ mkd M i = true) → (∀ i : Nat, mkd M i = true → (i : Int) ∉ W → ∀ a ∈ nxL L i, mkd M a.toNat = true) →
 ∃ M', Fin L M' ∧ ∀ R, Ev (fun k => zp.l2 k [] M' (M'.length : Int) 0) R → Ev (fun k => zp.l0 k L M W) R := by
 intro m
 induction m with
 | zero =>
  intro M W hm hM hW h1 h2 h3 h4
  have hn : W = [] := List.eq_nil_of_length_eq_zero (by omega)
  subst hn
  exact ⟨M, ⟨hM, h1, h2, fun i hi => h4 i hi (by simp)⟩, fun R e => Ev.step (fun k => by simp only [zp.l0]; rw [if_neg (by simp)]) e⟩
 | succ m ih =>
  intro M W hm hM hW h1 h2 h3 h4
  have hs := hL.small
  rcases List.eq_nil_or_concat W with rfl | ⟨ys, j, rfl⟩
  ·exact ⟨M, ⟨hM, h1, h2, fun i hi => h4 i hi (by simp)⟩, fun R e => Ev.step (fun k => by simp only [zp.l0]; rw [if_neg (by simp)]) e⟩
  rw [List.concat_eq_append] at *
  rw [List.length_append, List.length_singleton] at hm hW
  obtain ⟨i, rfl, hi⟩ := h3 j (List.mem_append_right _ (List.mem_singleton.2 rfl))
  have hiL : i < L.length := hM ▸ zcW hi
  obtain ⟨M', W', p1, p2, p3, p4, p5, p6, p7, p8, p9, p10⟩ := zay hs (nxL L i) (hL.nexts i hiL) (z8I L i) (nxL L i).length 0 M ys (by omega) hM (by omega)
  obtain ⟨M2, f, g⟩ := ih M' W' (by omega) p1 p2 (fun x hx => by
   rcases p6 x hx with h | h
   ·exact h1 x h
   ·exact (h1 i hi).step h) (p4 0 h2) (fun y hy => by
   rcases p9 y hy with h | h
   ·obtain ⟨z, rfl, hz⟩ := h3 y (List.mem_append_left _ h)
    exact ⟨z, rfl, p4 z hz⟩
   ·exact h) (fun x hx hn a ha => by
   cases hxM : mkd M x with
   | false => exact absurd (p7 x hx hxM) hn
   | true =>
    by_cases e : x = i
    ·subst e; exact p5 a (by rw [List.drop_zero]; exact ha)
    ·refine p4 _ (h4 x hxM (fun hc => ?_) a ha)
     rcases List.mem_append.1 hc with hc | hc
     ·exact hn (p8 _ hc)
     ·rw [List.mem_singleton] at hc; omega)
  refine ⟨M2, f, fun R e => Ev.step (fun k => ?_) (p10 R (g R e))⟩
  simp only [zp.l0]
  have hlen : ((ys ++ [(i : Int)]).length : Int) - 1 = (ys.length : Int) := by rw [List.length_append, List.length_singleton]; omega
  have hw : wrap64 (((ys ++ [(i : Int)]).length : Int) - 1) = (ys.length : Int) := by rw [hlen, w64 (by omega) (by omega)]
  have hrd : rd (ys ++ [(i : Int)]) (ys.length : Int) = (i : Int) := by rw [zaU _ _ (by rw [List.length_append, List.length_singleton]; omega)]; simp
  rw [hw, hrd, Int.toNat_natCast, List.take_left, if_pos (by rw [List.length_append, List.length_singleton]; omega), if_pos (by omega), if_pos (by rw [List.length_append, List.length_singleton]; omega), if_pos (by rw [List.length_append, List.length_singleton]; omega), if_pos (by omega), if_pos (by omega)]
  exact z0r (zcX L i hiL hs _ rfl) rfl
theorem zdW {L : List S63} (hL : Ok L) : ∀ (m : Nat) (M : List Bool) (W : List Int), 4 * unm M + W.length ≤ m → M.length = L.length → 4 * unm M + W.length ≤ 4 * L.length + 1 → (∀ i, mkd M i = true → Rch L i) → (mkd M 0 = true ∨ (0 : Int) ∈ W) →
 (∀ j ∈ W, ∃ i : Nat, j = (i : Int) ∧ i < L.length ∧ Rch L i) → (∀ i : Nat, mkd M i = true → ∀ a ∈ nxL L i, mkd M a.toNat = true ∨ a ∈ W) → ∃ M', Fin L M' ∧ Ev (fun k => zJ.l0 k L M W) M' := by
 intro m
 have done : ∀ M : List Bool, M.length = L.length → (∀ i, mkd M i = true → Rch L i) → (mkd M 0 = true ∨ (0 : Int) ∈ ([] : List Int)) → (∀ i : Nat, mkd M i = true → ∀ a ∈ nxL L i, mkd M a.toNat = true ∨ a ∈ ([] : List Int)) → ∃ M', Fin L M' ∧ Ev (fun k => zJ.l0 k L M []) M' := fun M hM h1 h2 h4 =>
  ⟨M, ⟨hM, h1, h2.resolve_right (by simp), fun i hi a ha => (h4 i hi a ha).resolve_right (by simp)⟩, Ev.step (f := fun _ => some M) (fun k => by simp only [zJ.l0]; rw [if_neg (by simp)]) (Ev.now _)⟩
 induction m with
 | zero =>
  intro M W hm hM hW h1 h2 h3 h4
  obtain rfl : W = [] := List.eq_nil_of_length_eq_zero (by omega)
  exact done M hM h1 h2 h4
 | succ m ih =>
  intro M W hm hM hW h1 h2 h3 h4
  have hs := hL.small
  cases W with
  | nil => exact done M hM h1 h2 h4
  | cons j ys =>
   rw [List.length_cons] at hm hW
   obtain ⟨i, rfl, hiL, hr⟩ := h3 j List.mem_cons_self
   have hrd : rd ((i : Int) :: ys) 0 = (i : Int) := rfl
   cases hi : mkd M i with
   | true =>
    obtain ⟨M', f, e⟩ := ih M ys (by omega) hM (by omega) h1 (by
     rcases h2 with h | h
     ·exact .inl h
     ·rcases List.mem_cons.1 h with h | h
      ·left; have : i = 0 := by omega
       subst this; exact hi
      ·exact .inr h) (fun y hy => h3 y (List.mem_cons_of_mem _ hy)) (fun x hx a ha => by
     rcases h4 x hx a ha with h | h
     ·exact .inl h
     ·rcases List.mem_cons.1 h with rfl | h
      ·left; rw [Int.toNat_natCast]; exact hi
      ·exact .inr h)
    refine ⟨M', f, Ev.step (fun k => ?_) e⟩
    simp only [zJ.l0]
    rw [if_pos (by rw [List.length_cons]; omega), if_pos (by rw [List.length_cons]; omega), if_pos (by rw [List.length_cons]; omega), hrd]
    refine z0r (x := ys) rfl ?_
    rw [if_pos (by omega), if_pos (by omega), rdM, Int.toNat_natCast, hi, if_pos rfl]
   | false =>
    have hiM : i < M.length := by omega
    have hu := z6x hiM hi
    have h3n := z8I L i
    obtain ⟨M', f, e⟩ := ih (M.set i true) (ys ++ nxL L i) (by rw [List.length_append]; omega) (by rw [List.length_set]; exact hM) (by rw [List.length_append]; omega) (fun x hx => by
     rw [z0S hiM] at hx
     by_cases e : x = i
     ·subst e; exact hr
     ·rw [if_neg e] at hx; exact h1 x hx) (by
     by_cases e : (0 : Nat) = i
     ·left; rw [z0S hiM, if_pos e]
     ·rcases h2 with h | h
      ·left; rw [z0S hiM, if_neg e]; exact h
      ·rcases List.mem_cons.1 h with h | h
       ·exact absurd (by omega) e
       ·exact .inr (List.mem_append_left _ h)) (fun y hy => by
     rcases List.mem_append.1 hy with hy | hy
     ·exact h3 y (List.mem_cons_of_mem _ hy)
     ·obtain ⟨q0, q1⟩ := hL.nexts i hiL y hy
      obtain ⟨z, rfl⟩ := Int.eq_ofNat_of_zero_le q0
      exact ⟨z, rfl, by omega, hr.step hy⟩) (fun x hx a ha => by
     by_cases e : x = i
     ·subst e; exact .inr (List.mem_append_right _ ha)
     ·rw [z0S hiM, if_neg e] at hx
      rcases h4 x hx a ha with h | h
      ·exact .inl (z6X hiM h)
      ·rcases List.mem_cons.1 h with rfl | h
       ·left; rw [Int.toNat_natCast, z0S hiM, if_pos rfl]
       ·exact .inr (List.mem_append_left _ h))
    refine ⟨M', f, Ev.step (fun k => ?_) e⟩
    simp only [zJ.l0]
    rw [if_pos (by rw [List.length_cons]; omega), if_pos (by rw [List.length_cons]; omega), if_pos (by rw [List.length_cons]; omega), hrd]
    refine z0r (x := ys) rfl ?_
    rw [if_pos (by omega), if_pos (by omega), rdM, Int.toNat_natCast, hi, if_neg Bool.false_ne_true]
    refine z0r (zc3 L i hiL hs) ?_
    rw [if_pos (by omega)]
def idx (M : List Bool) (c : Nat) : List Int := ((List.range' c (M.length - c)).filter fun i => mkd M i).map fun (i : Nat) => (i : Int)
theorem zbG (M : List Bool) (c : Nat) : (idx M c).length ≤ M.length := by
 unfold idx
 rw [List.length_map]
 exact Nat.le_trans (List.length_filter_le _ _) (by rw [List.length_range']; omega)
theorem zal {M : List Bool} {c : Nat} (h : c < M.length) : idx M c = (if mkd M c = true then [(c : Int)] else []) ++ idx M (c + 1) := by
 unfold idx
 rw [show M.length - c = (M.length - (c + 1)) + 1 by omega, List.range'_succ, List.filter_cons]
 split <;> simp_all
theorem zaz (M : List Bool) (hs : M.length ≤ 100000) : ∀ (d c : Nat) (acc : List Int), c + d = M.length → acc.length ≤ c → Ev (fun k => zp.l2 k acc M (M.length : Int) (c : Int)) (acc ++ idx M c, 0) ∧ Ev (fun k => zA.l0 k acc M (M.length : Int) (c : Int)) (acc ++ idx M c)
 | 0, c, acc, hc, ha => by
  have : idx M c = [] := by unfold idx; rw [show M.length - c = 0 by omega]; rfl
  rw [this, List.append_nil]
  exact ⟨Ev.step (f := fun _ => some (acc, 0)) (fun k => by simp only [zp.l2]; rw [if_neg (by omega)]) (Ev.now _), Ev.step (f := fun _ => some acc) (fun k => by simp only [zA.l0]; rw [if_neg (by omega)]) (Ev.now _)⟩
 | d + 1, c, acc, hc, ha => by
  have hcl : c < M.length := by omega
  rw [zal hcl]
  cases hm : mkd M c with
  | true =>
   obtain ⟨e1, e2⟩ := zaz M hs d (c + 1) (acc ++ [(c : Int)]) (by omega) (by rw [List.length_append, List.length_singleton]; omega)
   rw [if_pos rfl, ← List.append_assoc]
   refine ⟨Ev.step (fun k => ?_) e1, Ev.step (fun k => ?_) e2⟩
   ·simp only [zp.l2]
    rw [if_pos (by omega), if_pos (by omega), if_pos (by omega), rdM, Int.toNat_natCast, hm, if_pos rfl, if_pos (by omega), z3K (by omega)]
   ·simp only [zA.l0]
    rw [if_pos (by omega), if_pos (by omega), if_pos (by omega), rdM, Int.toNat_natCast, hm, if_pos rfl, if_pos (by omega), z3K (by omega)]
  | false =>
   obtain ⟨e1, e2⟩ := zaz M hs d (c + 1) acc (by omega) (by omega)
   rw [if_neg Bool.false_ne_true, List.nil_append]
   refine ⟨Ev.step (fun k => ?_) e1, Ev.step (fun k => ?_) e2⟩
   ·simp only [zp.l2]
    rw [if_pos (by omega), if_pos (by omega), if_pos (by omega), rdM, Int.toNat_natCast, hm, if_neg Bool.false_ne_true, z3K (by omega)]
   ·simp only [zA.l0]
    rw [if_pos (by omega), if_pos (by omega), if_pos (by omega), rdM, Int.toNat_natCast, hm, if_neg Bool.false_ne_true, z3K (by omega)]
theorem z8R (n : Nat) : unm (List.replicate n false) = n := by unfold unm; simp
theorem z4s (n i : Nat) : mkd (List.replicate n false) i = false := by
 unfold mkd
 rw [List.getD_eq_getElem?_getD, List.getElem?_replicate]
 split <;> rfl
theorem z7x {L : List S63} (hL : Ok L) : ∃ r : List Int, Ev (fun k => zp.l0 k L ((List.replicate L.length false).set 0 true) [0]) (r, 0) ∧ Ev (fun k => zA.f k L) r ∧ r.length ≤ L.length := by
 have hp := hL.pos
 have hs := hL.small
 have h0 : 0 < (List.replicate L.length false).length := by rw [List.length_replicate]; exact hp
 have hu := z6x h0 (z4s _ 0)
 rw [z8R] at hu
 have one : ∀ i, mkd ((List.replicate L.length false).set 0 true) i = true → i = 0 := fun i hi => by
  rw [z0S h0, z4s] at hi
  by_cases e : i = 0
  ·exact e
  ·rw [if_neg e] at hi; cases hi
 obtain ⟨M, f, g⟩ := zdD hL _ ((List.replicate L.length false).set 0 true) [0] (Nat.le_refl _) (by rw [List.length_set, List.length_replicate]) (by rw [List.length_singleton]; omega) (fun i hi => one i hi ▸ Rch.zero) (by rw [z0S h0, if_pos rfl])
  (fun j hj => ⟨0, by simpa using hj, by rw [z0S h0, if_pos rfl]⟩) (fun i hi hn => by rw [one i hi] at hn; exact absurd (List.mem_singleton.2 rfl) hn)
 obtain ⟨N, f2, g2⟩ := zdW hL _ (List.replicate L.length false) [0] (Nat.le_refl _) (by rw [List.length_replicate]) (by rw [z8R, List.length_singleton]; omega) (fun i hi => by rw [z4s] at hi; cases hi) (.inr (List.mem_singleton.2 rfl))
  (fun j hj => ⟨0, by simpa using hj, hp, Rch.zero⟩) (fun i hi => by rw [z4s] at hi; cases hi)
 obtain rfl := f.one f2
 obtain ⟨e1, e2⟩ := zaz M (by rw [f.len]; exact hs) M.length 0 [] (by omega) (Nat.le_refl _)
 refine ⟨idx M 0, g _ e1, ?_, by have := zbG M 0; have := f.len; omega⟩
 unfold zA.f
 refine Ev.bind (f := fun k t => zA.l0 k [] t (t.length : Int) 0) ?_ e2
 unfold zJ.f
 refine Ev.congr (fun k => ?_) g2
 rw [if_pos (by omega), if_pos (by omega), Int.toNat_natCast]
theorem zbK (l : List Int) (hs : l.length ≤ 100000) : Ev (fun k => zR.f k l l) true := by
 have go : ∀ (d c : Nat), c + d = l.length → Ev (fun k => zR.l0 k l l (c : Int)) true := by
  intro d
  induction d with
  | zero => intro c hc; exact Ev.step (f := fun _ => some true) (fun k => by simp only [zR.l0]; rw [if_neg (by omega)]) (Ev.now _)
  | succ d ih =>
   intro c hc
   refine Ev.step (fun k => ?_) (ih (c + 1) (by omega))
   simp only [zR.l0]
   rw [if_pos (by omega), if_pos (by omega), if_pos (by omega), if_pos trivial, z3K (by omega)]
 unfold zR.f
 exact Ev.congr (fun k => if_pos rfl) (go l.length 0 (by omega))
end Go.Proofs.QP

namespace Go.Proofs.QP
open Go.RowKit Go.Proofs.PW Go.Proofs.PL Go.Proofs.PM
open Go.ChangeShapes Go.WideShapes Go.Deep
def I64 (n : Int) : Prop := -9223372036854775808 ≤ n ∧ n < 9223372036854775808
def U32 (n : Int) : Prop := 0 ≤ n ∧ n < 4294967296
def z9W (x : xx) : Prop := I64 x.f0 ∧ ∀ n ∈ x.f1, I64 n
def zdo (x : S61) : Prop := I64 x.f0 ∧ (∀ d ∈ x.f2, U32 d) ∧ ∀ d ∈ x.f3, U32 d
def zdp (x : S63) : Prop := (I64 x.f0 ∧ I64 x.f1 ∧ I64 x.f2 ∧ I64 x.f3) ∧ zdo x.f4
def zbs (x : S50) : Prop := (∀ t ∈ x.f1, z9W t) ∧ (∀ t ∈ x.f2, z9W t) ∧ I64 x.f3 ∧ ∀ t ∈ x.f4, zdp t
theorem laidOut : laidOutB Tryz.prog = true := by kernel_rfl
theorem zdE {α : Type} {cs : List α} (h : cs.length = 2) : ∃ a b, cs = [a, b] := by
 match cs, h with
 | [a, b], _ => exact ⟨a, b, rfl⟩
theorem zdF {α : Type} {cs : List α} (h : cs.length = 4) : ∃ a b c d, cs = [a, b, c, d] := by
 match cs, h with
 | [a, b, c, d], _ => exact ⟨a, b, c, d, rfl⟩
theorem zdG {α : Type} {cs : List α} (h : cs.length = 5) : ∃ a b c d e, cs = [a, b, c, d, e] := by
 match cs, h with
 | [a, b, c, d, e], _ => exact ⟨a, b, c, d, e, rfl⟩
theorem zdH {α : Type} {cs : List α} (h : cs.length = 8) : ∃ a b c d e f g i, cs = [a, b, c, d, e, f, g, i] := by
 match cs, h with
 | [a, b, c, d, e, f, g, i], _ => exact ⟨a, b, c, d, e, f, g, i, rfl⟩
section
variable {H : Type} {enc : TypeId × Value → H} {w : World} {base : Nat} {held : Bool}
def Rd {H : Type} (enc : TypeId × Value → H) (w : World) (base : Nat) (held : Bool) {α : Type} (t : TypeId) (K : α → List Value → Prop) : Prop :=
 ∀ (fuel : Nat) (cs : List Value) (y : DataW H × List MemPlace), DataW.trod enc Tryz.prog w base (fun _ => true) held fuel t cs = some y → ∃ x : α, K x cs
theorem z1G {α : Type} (z : α) {d : Kd α} {t e : TypeId} {F : α → Prop} (ht : Tryz.prog.underlying t = some (.slice e)) (hc : Tryz.prog.cellsOf e = d.sz) (hel : Rd enc w base held e (fun x cs => d.K w x cs ∧ F x)) {fuel : Nat} {cs : List Value} {y : DataW H × List MemPlace}
 (h : DataW.trod enc Tryz.prog w base (fun _ => true) held fuel t cs = some y) : ∃ (A : Option Addr) (c : Nat) (xs : List α), cs = [.slice A xs.length c] ∧ xs.length ≤ c ∧ Kd.C d w A xs.length xs ∧ ∀ x ∈ xs, F x := by
 rcases open_slice ht h with ⟨rfl, _⟩ | ⟨x, len, cap, m, n, D, Pl, rfl, _, hl, hm, hmm, _, hx⟩
 ·exact ⟨none, 0, [], rfl, Nat.le_refl _, ⟨rfl, Nat.zero_le _, fun h => absurd h (Nat.lt_irrefl _)⟩, fun x h => by cases h⟩
 ·have hmm2 : m = cap := by rw [hmm]; rfl
  have each : ∀ i, i < len → ∃ q : α × List Value, w.cells? base (x.add (i * d.sz)) d.sz = some q.2 ∧ d.K w q.1 q.2 ∧ F q.1 := by
   intro i hi
   obtain ⟨cs', h1, h2⟩ := hx i (by omega)
   obtain ⟨p, hp⟩ := hel _ _ _ h2
   rw [hc] at h1
   exact ⟨(p, cs'), h1, hp⟩
  letI : Inhabited α := ⟨z⟩
  obtain ⟨f, hfx⟩ := choose_lt each
  refine ⟨some x, cap, (List.range len).map fun i => (f i).1, by rw [List.length_map, List.length_range], by rw [List.length_map, List.length_range]; exact hl, ⟨rfl, ?_, fun _ => ⟨x, rfl, ?_⟩⟩, fun y hy => by
   obtain ⟨i, hi, rfl⟩ := List.mem_map.1 hy
   exact (hfx i (List.mem_range.1 hi)).2.2⟩
  ·rw [List.length_map, List.length_range]
   have : maxLen ≤ 9223372036854775807 := by decide
   omega
  ·intro j p hj
   rw [List.getElem?_map] at hj
   obtain ⟨i, hi, rfl⟩ := Option.map_eq_some_iff.1 hj
   have hij : i = j ∧ j < len := by
    rw [List.getElem?_eq_some_iff] at hi
    obtain ⟨h1, h2⟩ := hi
    rw [List.length_range] at h1
    rw [List.getElem_range] at h2
    exact ⟨h2.symm, h1⟩
   obtain ⟨rfl, hil⟩ := hij
   obtain ⟨h1, h2, _⟩ := hfx i hil
   obtain ⟨_, hlen, hcell⟩ := World.cells?_some h1
   refine ⟨(f i).2, hlen, h2, fun j u hu => ?_⟩
   have hj3 : j < d.sz := by
    rw [List.getElem?_eq_some_iff] at hu
    rw [← hlen]
    exact hu.1
   have h4 := hcell j hj3
   rw [Deep.add_add] at h4
   rw [h4, hu]
theorem z7g {n : Int} (h : (Lit.int .i64 n).wf = true) : I64 n := by
 simp only [Lit.wf, Bool.and_eq_true, decide_eq_true_eq, show IntKind.min .i64 = -9223372036854775808 from rfl, show IntKind.max .i64 = 9223372036854775807 from rfl] at h
 exact ⟨h.1, by omega⟩
theorem zct {n : Int} (h : (Lit.int .u32 n).wf = true) : U32 n := by
 simp only [Lit.wf, Bool.and_eq_true, decide_eq_true_eq, show IntKind.min .u32 = 0 from rfl, show IntKind.max .u32 = 4294967295 from rfl] at h
 exact ⟨h.1, by omega⟩
theorem z83 {k : IntKind} {t : TypeId} {F : Int → Prop} (hF : ∀ n, (Lit.int k n).wf = true → F n) (ht : Tryz.prog.underlying t = some (.int k)) : Rd enc w base held t (fun x cs => (Kd.int k).K w x cs ∧ F x) := fun _ _ _ h => by
 obtain ⟨n, rfl, _, hw⟩ := DataW.trod_int ht h
 exact ⟨n, rfl, hF n hw⟩
theorem z3D {t : TypeId} {fs : Array Field} (ht : Tryz.prog.underlying t = some (.struct fs)) {fuel : Nat} {cs : List Value} {y : DataW H × List MemPlace} (h : DataW.trod enc Tryz.prog w base (fun _ => true) held fuel t cs = some y) :
 cs.length = Tryz.prog.cellsOf t ∧ ∀ (i : Nat) (f : Field), fs[i]? = some f → ∃ n y2, DataW.trod enc Tryz.prog w base (fun _ => true) held n f.type ((cs.drop f.offset).take (Tryz.prog.cellsOf f.type)) = some y2 := by
 obtain ⟨xs, n, _, _, hl, hxl, hf⟩ := DataW.trod_struct ht h
 refine ⟨hl, fun i f hi => ⟨n, ?_⟩⟩
 have hlt : i < xs.length := by
  rw [hxl]
  rw [Array.getElem?_eq_some_iff] at hi
  exact hi.1
 exact ⟨xs[i], by rw [hf i f hi]; exact List.getElem?_eq_getElem hlt⟩
theorem c1_ (t : TypeId) (h : Tryz.prog.cellsOf t = 1) (l : List Value) : l.take (Tryz.prog.cellsOf t) = l.take 1 := by rw [h]
theorem c4_ (t : TypeId) (h : Tryz.prog.cellsOf t = 4) (l : List Value) : l.take (Tryz.prog.cellsOf t) = l.take 4 := by rw [h]
theorem zcq : Rd enc w base held 115 (fun x cs => xC.K w x cs ∧ z9W x) := by
 intro fuel cs y h
 obtain ⟨hl, hf⟩ := z3D Tryz.underlying115 h
 rw [show Tryz.prog.cellsOf 115 = 2 by kernel_rfl] at hl
 obtain ⟨a, b, rfl⟩ := zdE hl
 obtain ⟨n0, y0, h0⟩ := hf 0 _ rfl
 obtain ⟨n1, y1, h1⟩ := hf 1 _ rfl
 replace h0 : DataW.trod enc Tryz.prog w base (fun _ => true) held n0 113 [a] = some y0 := by rw [c1_ _ (by kernel_rfl)] at h0; exact h0
 replace h1 : DataW.trod enc Tryz.prog w base (fun _ => true) held n1 42 [b] = some y1 := by rw [c1_ _ (by kernel_rfl)] at h1; exact h1
 obtain ⟨p, e0, _, f0⟩ := DataW.trod_int Tryz.underlying113 h0
 obtain ⟨A, c, xs, e1, l1, g1, f1⟩ := z1G (0 : Int) Tryz.underlying42 (by kernel_rfl) (z83 (fun _ => z7g) Tryz.underlying3) h1
 obtain rfl : a = .int .i64 p := by simpa using e0
 obtain rfl : b = .slice A xs.length c := by simpa using e1
 exact ⟨⟨p, xs⟩, z8B w ⟨p, xs⟩ l1 g1, z7g f0, f1⟩
theorem z82 {fuel : Nat} {cs : List Value} {y : DataW H × List MemPlace} (h : DataW.trod enc Tryz.prog w base (fun _ => true) held fuel 61 cs = some y) :
 ∃ (x : S61) (A2 : Option Addr) (c2 : Nat) (A3 : Option Addr) (c3 : Nat), cs = [.int .i64 x.f0, .bool x.f1, .slice A2 x.f2.length c2, .slice A3 x.f3.length c3] ∧ x.f2.length ≤ c2 ∧ (Kd.int .u32).C w A2 x.f2.length x.f2 ∧ x.f3.length ≤ c3 ∧ (Kd.int .u32).C w A3 x.f3.length x.f3 ∧ zdo x := by
 obtain ⟨hl, hf⟩ := z3D Tryz.underlying61 h
 rw [show Tryz.prog.cellsOf 61 = 4 by kernel_rfl] at hl
 obtain ⟨a, b, c, d, rfl⟩ := zdF hl
 obtain ⟨n0, y0, h0⟩ := hf 0 _ rfl
 obtain ⟨n1, y1, h1⟩ := hf 1 _ rfl
 obtain ⟨n2, y2, h2⟩ := hf 2 _ rfl
 obtain ⟨n3, y3, h3⟩ := hf 3 _ rfl
 replace h0 : DataW.trod enc Tryz.prog w base (fun _ => true) held n0 24 [a] = some y0 := by rw [c1_ _ (by kernel_rfl)] at h0; exact h0
 replace h1 : DataW.trod enc Tryz.prog w base (fun _ => true) held n1 4 [b] = some y1 := by rw [c1_ _ (by kernel_rfl)] at h1; exact h1
 replace h2 : DataW.trod enc Tryz.prog w base (fun _ => true) held n2 59 [c] = some y2 := by rw [c1_ _ (by kernel_rfl)] at h2; exact h2
 replace h3 : DataW.trod enc Tryz.prog w base (fun _ => true) held n3 59 [d] = some y3 := by rw [c1_ _ (by kernel_rfl)] at h3; exact h3
 obtain ⟨p, e0, _, f0⟩ := DataW.trod_int Tryz.underlying24 h0
 obtain ⟨q, e1, _⟩ := DataW.trod_bool Tryz.underlying4 h1
 obtain ⟨A2, k2, x2, e2, l2, g2, f2⟩ := z1G (0 : Int) Tryz.underlying59 (by kernel_rfl) (z83 (fun _ => zct) Tryz.underlying145) h2
 obtain ⟨A3, k3, x3, e3, l3, g3, f3⟩ := z1G (0 : Int) Tryz.underlying59 (by kernel_rfl) (z83 (fun _ => zct) Tryz.underlying145) h3
 obtain rfl : a = .int .i64 p := by simpa using e0
 obtain rfl : b = .bool q := by simpa using e1
 obtain rfl : c = .slice A2 x2.length k2 := by simpa using e2
 obtain rfl : d = .slice A3 x3.length k3 := by simpa using e3
 exact ⟨⟨p, q, x2, x3⟩, A2, k2, A3, k3, rfl, l2, g2, l3, g3, z7g f0, f2, f3⟩
theorem zej : Rd enc w base held 63 (fun x cs => k63.K w x cs ∧ zdp x) := by
 intro fuel cs y h
 obtain ⟨hl, hf⟩ := z3D Tryz.underlying63 h
 rw [show Tryz.prog.cellsOf 63 = 8 by kernel_rfl] at hl
 obtain ⟨a, b, c, d, e, f, g, i, rfl⟩ := zdH hl
 obtain ⟨n0, y0, h0⟩ := hf 0 _ rfl
 obtain ⟨n1, y1, h1⟩ := hf 1 _ rfl
 obtain ⟨n2, y2, h2⟩ := hf 2 _ rfl
 obtain ⟨n3, y3, h3⟩ := hf 3 _ rfl
 obtain ⟨n4, y4, h4⟩ := hf 4 _ rfl
 replace h0 : DataW.trod enc Tryz.prog w base (fun _ => true) held n0 3 [a] = some y0 := by rw [c1_ _ (by kernel_rfl)] at h0; exact h0
 replace h1 : DataW.trod enc Tryz.prog w base (fun _ => true) held n1 3 [b] = some y1 := by rw [c1_ _ (by kernel_rfl)] at h1; exact h1
 replace h2 : DataW.trod enc Tryz.prog w base (fun _ => true) held n2 3 [c] = some y2 := by rw [c1_ _ (by kernel_rfl)] at h2; exact h2
 replace h3 : DataW.trod enc Tryz.prog w base (fun _ => true) held n3 3 [d] = some y3 := by rw [c1_ _ (by kernel_rfl)] at h3; exact h3
 replace h4 : DataW.trod enc Tryz.prog w base (fun _ => true) held n4 61 [e, f, g, i] = some y4 := by
  rw [c4_ _ (by kernel_rfl)] at h4; exact h4
 obtain ⟨p0, e0, _, f0⟩ := DataW.trod_int Tryz.underlying3 h0
 obtain ⟨p1, e1, _, f1⟩ := DataW.trod_int Tryz.underlying3 h1
 obtain ⟨p2, e2, _, f2⟩ := DataW.trod_int Tryz.underlying3 h2
 obtain ⟨p3, e3, _, f3⟩ := DataW.trod_int Tryz.underlying3 h3
 obtain ⟨x, A2, c2, A3, c3, e4, l2, g2, l3, g3, f4⟩ := z82 h4
 obtain rfl : a = .int .i64 p0 := by simpa using e0
 obtain rfl : b = .int .i64 p1 := by simpa using e1
 obtain rfl : c = .int .i64 p2 := by simpa using e2
 obtain rfl : d = .int .i64 p3 := by simpa using e3
 simp only [List.cons.injEq, and_true] at e4
 obtain ⟨rfl, rfl, rfl, rfl⟩ := e4
 exact ⟨⟨p0, p1, p2, p3, x⟩, zat w ⟨p0, p1, p2, p3, x⟩ l2 g2 l3 g3, ⟨z7g f0, z7g f1, z7g f2, z7g f3⟩, f4⟩
theorem zei : Rd enc w base held 50 (fun x cs => k50.K w x cs ∧ zbs x) := by
 intro fuel cs y h
 obtain ⟨hl, hf⟩ := z3D Tryz.underlying50 h
 rw [show Tryz.prog.cellsOf 50 = 5 by kernel_rfl] at hl
 obtain ⟨a, b, c, d, e, rfl⟩ := zdG hl
 obtain ⟨n0, y0, h0⟩ := hf 0 _ rfl
 obtain ⟨n1, y1, h1⟩ := hf 1 _ rfl
 obtain ⟨n2, y2, h2⟩ := hf 2 _ rfl
 obtain ⟨n3, y3, h3⟩ := hf 3 _ rfl
 obtain ⟨n4, y4, h4⟩ := hf 4 _ rfl
 replace h0 : DataW.trod enc Tryz.prog w base (fun _ => true) held n0 9 [a] = some y0 := by rw [c1_ _ (by kernel_rfl)] at h0; exact h0
 replace h1 : DataW.trod enc Tryz.prog w base (fun _ => true) held n1 47 [b] = some y1 := by rw [c1_ _ (by kernel_rfl)] at h1; exact h1
 replace h2 : DataW.trod enc Tryz.prog w base (fun _ => true) held n2 47 [c] = some y2 := by rw [c1_ _ (by kernel_rfl)] at h2; exact h2
 replace h3 : DataW.trod enc Tryz.prog w base (fun _ => true) held n3 3 [d] = some y3 := by rw [c1_ _ (by kernel_rfl)] at h3; exact h3
 replace h4 : DataW.trod enc Tryz.prog w base (fun _ => true) held n4 48 [e] = some y4 := by rw [c1_ _ (by kernel_rfl)] at h4; exact h4
 obtain ⟨p0, e0, _, _⟩ := DataW.trod_string Tryz.underlying9 h0
 obtain ⟨A1, c1, x1, e1, l1, g1, f1⟩ := z1G (⟨0, []⟩ : xx) Tryz.underlying47 (by kernel_rfl) zcq h1
 obtain ⟨A2, c2, x2, e2, l2, g2, f2⟩ := z1G (⟨0, []⟩ : xx) Tryz.underlying47 (by kernel_rfl) zcq h2
 obtain ⟨p3, e3, _, f3⟩ := DataW.trod_int Tryz.underlying3 h3
 obtain ⟨A4, c4, x4, e4, l4, g4, f4⟩ := z1G (⟨0, 0, 0, 0, ⟨0, false, [], []⟩⟩ : S63) Tryz.underlying48 (by kernel_rfl) zej h4
 obtain rfl : a = .string p0 := by simpa using e0
 obtain rfl : b = .slice A1 x1.length c1 := by simpa using e1
 obtain rfl : c = .slice A2 x2.length c2 := by simpa using e2
 obtain rfl : d = .int .i64 p3 := by simpa using e3
 obtain rfl : e = .slice A4 x4.length c4 := by simpa using e4
 exact ⟨⟨p0, x1, x2, p3, x4⟩, zaq w ⟨p0, x1, x2, p3, x4⟩ l1 g1 l2 g2 l4 g4, f1, f2, z7g f3, f4⟩
theorem z9h {r : Reach} {b0 : Nat} {v : Value} {d : DataW H} {p : List MemPlace} (hv : Value.okWide Tryz.prog w r b0 22 v) (h : DataW.Trod enc Tryz.prog w base (fun _ => true) held 22 v d p) :
 ∃ (A : Option Addr) (c : Nat) (l : List S50), v = .slice A l.length c ∧ Kd.C k50 w A l.length l ∧ l.length ≤ c ∧ ∀ x ∈ l, zbs x := by
 obtain ⟨a, len, cap, rfl⟩ := okWide_slice Tryz.underlying22 hv
 obtain ⟨fuel, hf⟩ := h
 have hsz : Tryz.prog.cellsOf 50 = k50.sz := (show Tryz.prog.cellsOf 50 = 5 by kernel_rfl)
 obtain ⟨A, c, xs, e, l1, g1, f1⟩ := z1G (d := k50) z50 Tryz.underlying22 hsz zei hf
 simp only [Value.cells, List.cons.injEq, and_true] at e
 exact ⟨A, c, xs, e, g1, l1, f1⟩
end
end Go.Proofs.QP

