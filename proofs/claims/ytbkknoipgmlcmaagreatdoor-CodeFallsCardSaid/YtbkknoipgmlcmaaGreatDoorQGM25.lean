import Derived.ProofKit
import Derived.LaidMore
import Derived.OpenShut
import Derived.ShutString
import Derived.SliceStrings
import Derived.Stop.Joined
import Derived.Lay
import Derived.Test.YtbkknoipgmlcmaaGreatDoorQGM24
import Derived.Test.YtbkknoipgmlcmaaGreatDoorTie
set_option linter.all false
namespace Go.Proofs.QP
open Go.Proofs.YtbkknoipgmlcmaaGreatDoor
open Go.RowKit Go.Proofs.PW Go.Proofs.PL Go.Proofs.PM Go.Proofs.FX
theorem ze1 {l : List S50} (h : ∀ x ∈ l, zbs x) : Wd l := fun r hr x hx => ⟨((h r hr).2.2.2 x hx).2.2.1, ((h r hr).2.2.2 x hx).2.2.2⟩
theorem z9X : zv.f 64 = some true := by kernel_rfl
theorem zab : Ev (fun k => zv.f k) true := by
 refine ⟨64, fun k hk => ?_⟩
 obtain ⟨d, rfl⟩ : ∃ d, k = 64 + d := ⟨k - 64, by omega⟩
 clear hk
 induction d with
 | zero => exact z9X
 | succ d ih => exact zv.mono _ _ ih
theorem zaj {l : List S50} {m : Nat} (h : z0n l m = 0) : 1 ≤ (z8 l (m : Int)).f4.length := by
 unfold z0n at h
 by_cases h1 : z1r (z8 l (m : Int)).f0 = false
 ·rw [if_pos h1] at h; exact absurd h (by decide)
 rw [if_neg h1] at h
 by_cases h2 : decide (∀ i < m, (z8 l (i : Int)).f0.toList ≠ (z8 l (m : Int)).f0.toList) = false
 ·rw [if_pos h2] at h; exact absurd h (by decide)
 rw [if_neg h2] at h
 by_cases h3 : decide (∀ i < ((z8 l (m : Int)).f1 ++ (z8 l (m : Int)).f2).length, z17 (yg ((z8 l (m : Int)).f1 ++ (z8 l (m : Int)).f2) (i : Int)).f0 (yg ((z8 l (m : Int)).f1 ++ (z8 l (m : Int)).f2) (i : Int)).f1 = true) = false
 ·rw [if_pos h3] at h; exact absurd h (by decide)
 rw [if_neg h3] at h
 by_cases h4 : z2D (z8 l (m : Int)) = true
 ·rw [if_pos h4] at h; exact absurd h (by decide)
 have h5 : z2D (z8 l (m : Int)) = false := by simpa using h4
 unfold z2D at h5
 simp only [Bool.or_eq_false_iff, decide_eq_false_iff_not] at h5
 omega
def zcj (l : List S50) (i j : Int) : Prop :=
 (∃ x, x = zb (z8 l i).f4 j ∧ xz.f l i x.f0 x.f1 x.f2 x.f3 x.f4.f0 x.f4.f1 x.f4.f2 x.f4.f3 = some true) ∧ (j = ((z8 l i).f4.length : Int) - 1 → (zb (z8 l i).f4 j).f0 = 20 ∨ (zb (z8 l i).f4 j).f0 = 26)
def z4x (l : List S50) (i : Int) : Prop := 1 ≤ (z8 l i).f4.length ∧ ∀ j : Int, 0 ≤ j → j < ((z8 l i).f4.length : Int) → zcj l i j
theorem chk {l : List S50} (hC : Cut l) : ∀ k : Nat,
 (∀ (i : Int) (v : Int × Int × Int), 0 ≤ i → zh.l0 k l i = some v → v.2.2 = 0 → ∀ m : Int, i ≤ m → m < (l.length : Int) → z4x l m) ∧
 (∀ (i j : Int) (v : Int × Int × Int), 0 ≤ i → i < (l.length : Int) → 0 ≤ j → zh.l1 k l i (z8 l i).f4 j = some v → v.2.2 = 0 →
  (∀ j' : Int, j ≤ j' → j' < ((z8 l i).f4.length : Int) → zcj l i j') ∧ ∀ m : Int, i + 1 ≤ m → m < (l.length : Int) → z4x l m)
 | 0 => ⟨fun i v _ h => by simp [zh.l0] at h, fun i j v _ _ _ h => by simp [zh.l1] at h⟩
 | k + 1 => by
  obtain ⟨ih0, ih1⟩ := chk hC k
  refine ⟨fun i v i0 h hv m hm hl => ?_, fun i j v i0 i2 j0 h hv => ?_⟩
  ·have i2 : i < (l.length : Int) := by omega
   rw [z8L, if_pos i2] at h
   obtain ⟨t, ht, h⟩ := Option.bind_eq_some_iff.1 h
   by_cases h0 : t = 0
   ·rw [if_pos h0, if_pos i0] at h
    obtain ⟨g1, g2⟩ := ih1 i 0 v i0 i2 (Int.le_refl _) h hv
    by_cases e : m = i
    ·subst e
     refine ⟨?_, fun j j0 j2 => g1 j j0 j2⟩
     unfold z0h.f z4Q at ht
     rw [if_pos ⟨i0, i2, hC.small m i0 i2⟩, h0] at ht
     have := zaj (sI ht)
     rwa [Int.toNat_of_nonneg i0] at this
    ·exact g2 m (by omega) hl
   ·rw [if_neg h0] at h
    obtain rfl := sI h
    exact absurd hv h0
  ·have hn := hC.len
   have hins := hC.ins i i0 i2
   rw [zaR] at h
   by_cases j2 : j < ((z8 l i).f4.length : Int); rotate_left
   ·rw [if_neg j2, z30 i0 i2 (by omega)] at h
    exact ⟨fun j' a b => by omega, ih0 (i + 1) v (by omega) h hv⟩
   rw [if_pos j2, if_pos j0] at h
   obtain ⟨t, ht, h⟩ := Option.bind_eq_some_iff.1 h
   cases t with
   | false => rw [if_neg Bool.false_ne_true] at h; obtain rfl := sI h; exact absurd hv (by simp)
   | true =>
    rw [if_pos rfl] at h
    obtain ⟨u, hu, h⟩ := Option.bind_eq_some_iff.1 h
    cases u with
    | false => rw [if_neg Bool.false_ne_true] at h; obtain rfl := sI h; exact absurd hv (by simp)
    | true =>
     rw [if_pos rfl, w64 (by omega) (by omega), z30 j0 j2 (by omega)] at h
     have next : zh.l1 k l i (z8 l i).f4 (j + 1) = some v ∧ (j = ((z8 l i).f4.length : Int) - 1 → (zb (z8 l i).f4 j).f0 = 20 ∨ (zb (z8 l i).f4 j).f0 = 26) := by
      by_cases e : j = ((z8 l i).f4.length : Int) - 1
      ·rw [if_pos e] at h
       by_cases e2 : (zb (z8 l i).f4 j).f0 = 20
       ·rw [if_pos e2] at h; exact ⟨h, fun _ => .inl e2⟩
       rw [if_neg e2] at h
       by_cases e3 : (zb (z8 l i).f4 j).f0 = 26
       ·rw [if_pos e3] at h; exact ⟨h, fun _ => .inr e3⟩
       rw [if_neg e3] at h
       obtain rfl := sI h
       exact absurd hv (by simp)
      ·rw [if_neg e] at h; exact ⟨h, fun h2 => absurd h2 e⟩
     obtain ⟨g1, g2⟩ := ih1 i (j + 1) v i0 i2 (by omega) next.1 hv
     refine ⟨fun j' a b => ?_, g2⟩
     by_cases e : j' = j
     ·subst e; exact ⟨⟨_, rfl, hu⟩, next.2⟩
     ·exact g1 j' (by omega) b
theorem z6j {n u1 u2 u3 : Int} (h : ((yr.f n).map fun f => (f.2.1, f.2.2.1, f.2.2.2.1)) = some (u1, u2, u3)) {l : List S50} {i i1 i2 i3 i4 : Int} {i5 : Bool} {i6 i7 : List Int} (hk : xz.f l i n i1 i2 i3 i4 i5 i6 i7 = some true) :
 knR l i n i1 i2 i3 u1 u2 u3 = true := by
 unfold xz.f at hk
 split at hk
 ·obtain ⟨f, hf, hk⟩ := Option.bind_eq_some_iff.1 hk
  rw [hf] at h
  simp only [Option.map_some, Option.some.injEq, Prod.mk.injEq] at h
  obtain ⟨rfl, rfl, rfl⟩ := h
  exact sI hk
 ·cases hk
theorem goes {n m a s c : Int} (h : thR 2 n m a s c = true) : 0 ≤ n ∧ n < c := by
 unfold thR at h
 rw [if_neg (by decide), if_pos rfl, Bool.and_eq_true, decide_eq_true_eq, decide_eq_true_eq] at h
 exact h
theorem zdS {l : List S50} {i : Int} (h : z4x l i) (hs : (z8 l i).f4.length ≤ 1000) : Ok (z8 l i).f4 := by
 refine ⟨h.1, by omega, fun j hj a ha => ?_⟩
 obtain ⟨⟨x, hx, hk⟩, hlast⟩ := h.2 (j : Int) (by omega) (by omega)
 rw [← hx] at hlast
 unfold nxL nxS at ha
 rw [← hx] at ha
 by_cases h1 : x.f0 = 20
 ·rw [if_pos h1, List.mem_singleton] at ha
  subst ha
  rw [h1] at hk
  have := z6j (u1 := 2) (u2 := 0) (u3 := 0) (by kernel_rfl) hk
  unfold knR at this
  rw [Bool.and_eq_true] at this
  exact goes this.1
 rw [if_neg h1] at ha
 by_cases h2 : x.f0 = 26
 ·rw [if_pos h2] at ha; cases ha
 rw [if_neg h2] at ha
 have hn : (j : Int) + 1 < ((z8 l i).f4.length : Int) := by
  by_cases e : (j : Int) = ((z8 l i).f4.length : Int) - 1
  ·rcases hlast e with e2 | e2
   ·exact absurd e2 h1
   ·exact absurd e2 h2
  ·omega
 by_cases h3 : x.f0 = 21
 ·rw [if_pos h3] at ha
  rw [h3] at hk
  have := z6j (u1 := 2) (u2 := 1) (u3 := 6) (by kernel_rfl) hk
  unfold knR at this
  rw [Bool.and_eq_true] at this
  rcases List.mem_cons.1 ha with rfl | ha
  ·omega
  ·rw [List.mem_singleton] at ha; subst ha; exact goes this.1
 rw [if_neg h3] at ha
 by_cases h4 : x.f0 = 22
 ·rw [if_pos h4] at ha
  rw [h4] at hk
  have := z6j (u1 := 1) (u2 := 2) (u3 := 2) (by kernel_rfl) hk
  unfold knR at this
  rw [Bool.and_eq_true, Bool.and_eq_true] at this
  rcases List.mem_cons.1 ha with rfl | ha
  ·omega
  rcases List.mem_cons.1 ha with rfl | ha
  ·exact goes this.2.1
  ·rw [List.mem_singleton] at ha; subst ha; exact goes this.2.2
 rw [if_neg h4, List.mem_singleton] at ha
 subst ha
 omega
theorem zbE {l : List S50} (hC : Cut l) {v : Int × Int × Int} (e : Ev (fun k => zh.f k l) v) (hv : v.2.2 = 0) : ∀ m : Int, 0 ≤ m → m < (l.length : Int) → z4x l m := by
 obtain ⟨K, e⟩ := e
 have h := e (K + 1) (by omega)
 dsimp only at h
 unfold zh.f at h
 have J : ∀ b : Bool, zh.j0 (K + 1) l b = some v → ∀ m : Int, 0 ≤ m → m < (l.length : Int) → z4x l m := fun b h => by
  rw [zaZ] at h
  cases b with
  | true => rw [if_pos rfl] at h; obtain rfl := sI h; exact absurd hv (by simp)
  | false => rw [if_neg Bool.false_ne_true] at h; exact (chk hC K).1 0 v (Int.le_refl _) h hv
 split at h
 ·exact J _ h
 ·exact J _ h
theorem zcg (k : Nat) (l : List S50) (i : Int) (b : Bool) : zp.j0 (k + 1) l i b = if b = true then some (([] : List Int), 2) else (if 0 ≤ i then (if i < (l.length : Int) then (if 0 ≤ (((z8 l i).f4).length : Int) then (if ((((z8 l i).f4).length : Int) : Int).toNat ≤ 281474976710656 then ((some (List.replicate ((((z8 l i).f4).length : Int) : Int).toNat false : List Bool)).bind fun y => (if 0 < (y.length : Int) then (zp.l0 k ((z8 l i).f4) (y.set (0 : Int).toNat true) (([0] : List Int))) else (none))) else (none)) else (none)) else (none)) else (none)) := by
 conv => lhs; unfold zp.j0
theorem zac {l : List S50} {i : Int} (i0 : 0 ≤ i) (i2 : i < (l.length : Int)) (hL : Ok (z8 l i).f4) : ∃ r : List Int, Ev (fun k => zp.j0 k l i false) (r, 0) ∧ Ev (fun k => zA.f k (z8 l i).f4) r ∧ r.length ≤ 100000 := by
 obtain ⟨r, e1, e2, hr⟩ := z7x hL
 have hp := hL.pos
 have hs := hL.small
 refine ⟨r, Ev.step (fun k => ?_) e1, e2, by omega⟩
 rw [zcg, if_neg Bool.false_ne_true, if_pos i0, if_pos i2, if_pos (by omega), if_pos (by omega), Int.toNat_natCast]
 refine z0r (x := List.replicate (z8 l i).f4.length false) rfl ?_
 rw [if_pos (by rw [List.length_replicate]; omega)]
 rfl
theorem zcn (k : Nat) (x1 : Int) (x5 : List S50) (x6 : List Int) (x7 : Int) (b : Bool) : zo.j0 (k + 1) x1 x5 x6 x7 b = if b = true then (if (x6.length : Int) = 0 then (if x7 = 2 then ((zv.f k).bind fun t => (some t)) else (some false)) else (some false)) else (if x7 = 0 then (if 0 ≤ x1 then (if x1 < (x5.length : Int) then ((zA.f k ((z8 x5 x1).f4)).bind fun t => ((zR.f k x6 t).bind fun u => (if u = true then ((zv.f k).bind fun t => (some t)) else (some false)))) else (none)) else (none)) else (some false)) := by
 conv => lhs; unfold zo.j0
theorem z5i (halive : Ev (fun k => zv.f k) true) (a : List S50) (i : Int) (hF : ∀ x ∈ a, zbs x) : ∃ k, zo.f k a i = some true := by
 obtain ⟨r, ec, h1, h2⟩ := zcQ a (ze1 hF)
 have hC := zcL h1 h2
 obtain ⟨v, e1, e2⟩ := z7s hC
 have al : Ev (fun k => (zv.f k).bind fun t => (some t)) true := Ev.bind (f := fun _ t => some t) halive (Ev.now _)
 have i1 : Ev (fun k => yF.f k r) (v.2.2 == 0) := show Ev (fun k => (zt.f k r).bind fun t => some (t.2.2 == 0)) _ from Ev.bind (f := fun _ (t : Int × Int × Int) => some (t.2.2 == 0)) e1 (Ev.now _)
 have i2 : Ev (fun k => yo.f k r) (v.2.2 == 0) := show Ev (fun k => (zh.f k r).bind fun t => some (t.2.2 == 0)) _ from Ev.bind (f := fun _ (t : Int × Int × Int) => some (t.2.2 == 0)) e2 (Ev.now _)
 have T : ∀ (q : List Int × Int), Ev (fun k => zp.f k r i) q → Ev (fun k => if (v.2.2 == 0) = true then (if i < 0 then (zo.j0 k i r q.1 q.2 true) else (zo.j0 k i r q.1 q.2 (decide (i ≥ (r.length : Int))))) else (if (q.1.length : Int) = 0 then (if q.2 = 5 then ((zv.f k).bind fun t => (some t)) else (some false)) else (some false))) true → ∃ k, zo.f k a i = some true := fun q e h => by
  obtain ⟨k, hk⟩ := (Ev.bind (f := fun k t => (yz.f k a).bind fun u => ((zp.f k u i).bind fun b => ((yo.f k t).bind fun c => (if c = true then (if i < 0 then (zo.j0 k i t b.1 b.2 true) else (zo.j0 k i t b.1 b.2 (decide (i ≥ (t.length : Int))))) else (if (b.1.length : Int) = 0 then (if b.2 = 5 then ((zv.f k).bind fun t => (some t)) else (some false)) else (some false)))))) ec
   (Ev.bind (f := fun k u => (zp.f k u i).bind fun b => ((yo.f k r).bind fun c => (if c = true then (if i < 0 then (zo.j0 k i r b.1 b.2 true) else (zo.j0 k i r b.1 b.2 (decide (i ≥ (r.length : Int))))) else (if (b.1.length : Int) = 0 then (if b.2 = 5 then ((zv.f k).bind fun t => (some t)) else (some false)) else (some false))))) ec
   (Ev.bind (f := fun k b => (yo.f k r).bind fun c => (if c = true then (if i < 0 then (zo.j0 k i r b.1 b.2 true) else (zo.j0 k i r b.1 b.2 (decide (i ≥ (r.length : Int))))) else (if (b.1.length : Int) = 0 then (if b.2 = 5 then ((zv.f k).bind fun t => (some t)) else (some false)) else (some false)))) e
   (Ev.bind (f := fun k c => if c = true then (if i < 0 then (zo.j0 k i r q.1 q.2 true) else (zo.j0 k i r q.1 q.2 (decide (i ≥ (r.length : Int))))) else (if (q.1.length : Int) = 0 then (if q.2 = 5 then ((zv.f k).bind fun t => (some t)) else (some false)) else (some false))) i2 h)))).rounds
  exact ⟨k, hk⟩
 have F : ∀ q : List Int × Int, Ev (fun k => if (v.2.2 == 0) = true then (if i < 0 then (zp.j0 k r i true) else (zp.j0 k r i (decide (i ≥ (r.length : Int))))) else some (([] : List Int), 5)) q → Ev (fun k => zp.f k r i) q := fun q h =>
  show Ev (fun k => (yF.f k r).bind fun t => (if t = true then (if i < 0 then (zp.j0 k r i true) else (zp.j0 k r i (decide (i ≥ (r.length : Int))))) else (some (([] : List Int), 5)))) q from
  Ev.bind (f := fun k t => if t = true then (if i < 0 then (zp.j0 k r i true) else (zp.j0 k r i (decide (i ≥ (r.length : Int))))) else (some (([] : List Int), 5))) i1 h
 cases hb : (v.2.2 == 0) with
 | false =>
  rw [hb] at T F
  refine T ([], 5) (F _ (Ev.congr (fun k => if_neg Bool.false_ne_true) (Ev.now _))) (Ev.congr (fun k => (if_neg Bool.false_ne_true).trans ((if_pos rfl).trans (if_pos rfl))) al)
 | true =>
  rw [hb] at T F
  have hout : i < 0 ∨ (r.length : Int) ≤ i → ∃ k, zo.f k a i = some true := fun ho => by
   have c1 : Ev (fun k => zp.j0 k r i true) (([] : List Int), (2 : Int)) := Ev.step (f := fun _ => some (([] : List Int), (2 : Int))) (fun k => by rw [zcg, if_pos rfl]) (Ev.now _)
   have c2 : Ev (fun k => zo.j0 k i r ([] : List Int) 2 true) true := Ev.step (fun k => by rw [zcn, if_pos rfl]; exact (if_pos rfl).trans (if_pos rfl)) al
   by_cases hi : i < 0
   ·exact T ([], 2) (F _ (Ev.congr (fun k => (if_pos rfl).trans (if_pos hi)) c1)) (Ev.congr (fun k => (if_pos rfl).trans (if_pos hi)) c2)
   ·have hd : decide (i ≥ (r.length : Int)) = true := dT (by omega)
    rw [hd] at T F
    exact T ([], 2) (F _ (Ev.congr (fun k => (if_pos rfl).trans (if_neg hi)) c1)) (Ev.congr (fun k => (if_pos rfl).trans (if_neg hi)) c2)
  by_cases ho : i < 0 ∨ (r.length : Int) ≤ i
  ·exact hout ho
  have i0 : 0 ≤ i := by omega
  have il : i < (r.length : Int) := by omega
  have hd : decide (i ≥ (r.length : Int)) = false := dF (by omega)
  have hsm : (z8 r i).f4.length ≤ 1000 := by
   obtain ⟨n, rfl⟩ := Int.eq_ofNat_of_zero_le i0
   rw [z6t r n (by omega)]
   exact (h2 _ (List.getElem_mem _)).2.1
  obtain ⟨q, f1, f2, f3⟩ := zac i0 il (zdS (zbE hC e2 (beq_iff_eq.1 hb) i i0 il) hsm)
  rw [hd] at T F
  refine T (q, 0) (F _ (Ev.congr (fun k => (if_pos rfl).trans (if_neg (by omega))) f1)) (Ev.congr (fun k => (if_pos rfl).trans (if_neg (by omega))) ?_)
  refine Ev.step (f := fun k => (zA.f k ((z8 r i).f4)).bind fun t => ((zR.f k q t).bind fun u => (if u = true then ((zv.f k).bind fun t => (some t)) else (some false)))) (fun k => by rw [zcn, if_neg Bool.false_ne_true, if_pos rfl, if_pos i0, if_pos il]) ?_
  refine Ev.bind (f := fun k t => (zR.f k q t).bind fun u => (if u = true then ((zv.f k).bind fun t => (some t)) else (some false))) f2 ?_
  exact Ev.bind (f := fun k u => if u = true then ((zv.f k).bind fun t => (some t)) else (some false)) (zbK q f3) (Ev.congr (fun k => if_pos rfl) al)
end Go.Proofs.QP

namespace Go.Proofs.QP
open Go.Proofs.YtbkknoipgmlcmaaGreatDoor
open Go.ChangeShapes Go.WideShapes Go.ChangeAt Go.RowKit
open Go.Proofs.PW Go.Proofs.PL Go.Proofs.PM
abbrev z4R : List (String × DataW Unit) := [("math/bits.deBruijn32tab", Rows.laid_math_bits_deBruijn32tab), ("math/bits.deBruijn64tab", Rows.laid_math_bits_deBruijn64tab), ("internal/strconv.uint64pow10", Rows.laid_internal_strconv_uint64pow10), ("unicode/utf8.acceptRanges", Rows.laid_unicode_utf8_acceptRanges), ("fluxion/frac.faults", Rows.laid_fluxion_frac_faults), ("fluxion/shape.kinds", Rows.laid_fluxion_shape_kinds), ("fluxion/code.sorts", Rows.laid_fluxion_code_sorts), ("unicode/utf8.first", Rows.laid_unicode_utf8_first)]
theorem own : ownKnob Tryz.prog.godebug = none := by kernel_rfl
theorem zcS : Tryz.prog.globalNamed "fluxion/code.sorts" = some 0 := by kernel_rfl
theorem zcR : Tryz.prog.globalNamed "fluxion/shape.kinds" = some 1 := by kernel_rfl
theorem zdd : (Tryz.prog.globals[0]?).map (·.type) = some 149 := by kernel_rfl
theorem zdc : (Tryz.prog.globals[1]?).map (·.type) = some 186 := by kernel_rfl
theorem za8 (os : Os) (args : Array Value) : laidMetH Tryz.prog z4R ((World.laidAll Tryz.prog os z4R).forCall (fun _ _ => 0) ⟨#[], args, []⟩).memory := by
 rw [MakeChecks.laidMetH_plain _ _ _ (by kernel_rfl)]
 exact laidMet_laidAll args (by kernel_rfl) (by kernel_rfl)
def z7R : DataW Unit → List Value
 | .lit (.string l) => [.string ⟨l.toArray⟩]
 | .lit (.int k n) => [.int k n]
 | .lit (.bool b) => [.bool b]
 | _ => []
def zdq : DataW Unit → List Value
 | .agg ds => ds.flatMap z7R
 | _ => []
theorem chunks {α : Type} (E : α → List Value) (c : Nat) : ∀ (ds : List α) (cs : List Value), cs.length = ds.length * c → (∀ (i : Nat) (d : α), ds[i]? = some d → (cs.drop (i * c)).take c = E d) → cs = ds.flatMap E
 | [], cs, hl, _ => by
  rw [List.length_nil, Nat.zero_mul] at hl
  exact List.eq_nil_of_length_eq_zero hl
 | d :: ds, cs, hl, h => by
  have h0 := h 0 d rfl
  rw [Nat.zero_mul, List.drop_zero] at h0
  have hr := chunks E c ds (cs.drop c) (by rw [List.length_drop, hl, List.length_cons, Nat.succ_mul]; omega) (fun i d' hi => by
   have := h (i + 1) d' hi
   rw [Nat.succ_mul, Nat.add_comm, ← List.drop_drop] at this
   exact this)
  rw [List.flatMap_cons, ← h0, ← hr, List.take_append_drop]
section
variable {w : World} {base : Nat} {sp : Nat → Bool} {held : Bool}
theorem z8G {t : TypeId} {m : Nat} {cs : List Value} {y : DataW Unit × List MemPlace} (ht : Tryz.prog.underlying t = some .string) (h : DataW.trod (fun _ => ()) Tryz.prog w base sp held m t cs = some y) : cs = z7R y.1 := by
 obtain ⟨s, rfl, rfl, _⟩ := DataW.trod_string ht h
 simp [z7R]
theorem z3A {t : TypeId} {k : IntKind} {m : Nat} {cs : List Value} {y : DataW Unit × List MemPlace} (ht : Tryz.prog.underlying t = some (.int k)) (h : DataW.trod (fun _ => ()) Tryz.prog w base sp held m t cs = some y) : cs = z7R y.1 := by
 obtain ⟨n, rfl, rfl, _⟩ := DataW.trod_int ht h
 rfl
theorem zaD {t : TypeId} {m : Nat} {cs : List Value} {y : DataW Unit × List MemPlace} (ht : Tryz.prog.underlying t = some .bool) (h : DataW.trod (fun _ => ()) Tryz.prog w base sp held m t cs = some y) : cs = z7R y.1 := by
 obtain ⟨b, rfl, rfl⟩ := DataW.trod_bool ht h
 rfl
theorem z4L {t e : TypeId} {n c fuel : Nat} {cs : List Value} {x : DataW Unit × List MemPlace} (E : DataW Unit → List Value) (ht : Tryz.prog.underlying t = some (.array n e)) (hc : Tryz.prog.cellsOf e = c) (hct : Tryz.prog.cellsOf t = n * c)
 (hel : ∀ m cs' y, DataW.trod (fun _ => ()) Tryz.prog w base sp held m e cs' = some y → cs' = E y.1) (h : DataW.trod (fun _ => ()) Tryz.prog w base sp held fuel t cs = some x) : ∃ ds, x.1 = .agg ds ∧ cs = ds.flatMap E := by
 obtain ⟨xs, m, _, rfl, hl, hxl, hf⟩ := DataW.trod_array ht h
 refine ⟨xs.map (·.1), rfl, chunks E c _ _ (by rw [hl, hct, List.length_map, hxl]) (fun i d hi => ?_)⟩
 rw [List.getElem?_map] at hi
 obtain ⟨y, hy, rfl⟩ := Option.map_eq_some_iff.1 hi
 have hlt : i < n := by
  rw [← hxl]
  exact (List.getElem?_eq_some_iff.1 hy).1
 have := hf i hlt
 rw [hy, hc] at this
 exact hel _ _ _ this
theorem z52 {fuel : Nat} {cs : List Value} {y : DataW Unit × List MemPlace} (h : DataW.trod (fun _ => ()) Tryz.prog w base sp held fuel 72 cs = some y) : cs = zdq y.1 := by
 obtain ⟨xs, m, _, rfl, hl, hxl, hf⟩ := DataW.trod_struct Tryz.underlying72 h
 have c9 : Tryz.prog.cellsOf 9 = 1 := by kernel_rfl
 have c70 : Tryz.prog.cellsOf 70 = 1 := by kernel_rfl
 have c4 : Tryz.prog.cellsOf 4 = 1 := by kernel_rfl
 have c3 : Tryz.prog.cellsOf 3 = 1 := by kernel_rfl
 have c72 : Tryz.prog.cellsOf 72 = 7 := by kernel_rfl
 have hxl7 : xs.length = 7 := hxl
 refine chunks z7R 1 (xs.map (·.1)) cs (by rw [hl, c72, List.length_map, hxl7]) (fun i d hi => ?_)
 rw [List.getElem?_map] at hi
 obtain ⟨y, hy, rfl⟩ := Option.map_eq_some_iff.1 hi
 have hlt : i < 7 := by
  rw [← hxl7]
  exact (List.getElem?_eq_some_iff.1 hy).1
 have A : ∀ i t y, Tryz.prog.cellsOf t = 1 → DataW.trod (fun _ => ()) Tryz.prog w base sp held m t ((cs.drop i).take (Tryz.prog.cellsOf t)) = xs[i]? → xs[i]? = some y → DataW.trod (fun _ => ()) Tryz.prog w base sp held m t ((cs.drop i).take 1) = some y := fun i t y h1 h2 h3 => by rw [h1, h3] at h2; exact h2
 match i, hlt, hy with
 | 0, _, hy => exact z8G Tryz.underlying9 (A 0 9 _ c9 (hf 0 _ rfl) hy)
 | 1, _, hy => exact z3A Tryz.underlying70 (A 1 70 _ c70 (hf 1 _ rfl) hy)
 | 2, _, hy => exact z3A Tryz.underlying70 (A 2 70 _ c70 (hf 2 _ rfl) hy)
 | 3, _, hy => exact z3A Tryz.underlying70 (A 3 70 _ c70 (hf 3 _ rfl) hy)
 | 4, _, hy => exact zaD Tryz.underlying4 (A 4 4 _ c4 (hf 4 _ rfl) hy)
 | 5, _, hy => exact z3A Tryz.underlying3 (A 5 3 _ c3 (hf 5 _ rfl) hy)
 | 6, _, hy => exact z3A Tryz.underlying3 (A 6 3 _ c3 (hf 6 _ rfl) hy)
end
theorem zdA {W : World} (h : laidMetH Tryz.prog z4R W) : GW W := by
 rw [MakeChecks.laidMetH_plain _ _ _ (by kernel_rfl)] at h
 obtain ⟨ps, ⟨_, _, _, _, _, _, _, _, _, _, ⟨_, _, _, _, _, _, _, _, _, _, ⟨_, _, _, _, _, _, _, _, _, _, ⟨_, _, _, _, _, _, _, _, _, _, ⟨_, _, _, _, _, _, _, _, _, _, ⟨g1, t1, cs1, f1, p1, q1, hg1, ht1, hv1, hd1, ⟨g0, t0, cs0, f0, p0, q0, hg0, ht0, hv0, hd0, _, _⟩, _⟩, _⟩, _⟩, _⟩, _⟩, _⟩, _, _⟩ := h
 obtain rfl := Option.some.inj (zcS.symm.trans hg0)
 obtain rfl := Option.some.inj (zcR.symm.trans hg1)
 obtain rfl := Option.some.inj (zdd.symm.trans ht0)
 obtain rfl := Option.some.inj (zdc.symm.trans ht1)
 obtain ⟨ds1, e1, hc1⟩ := z4L z7R Tryz.underlying186 (c := 1) (by kernel_rfl) (by kernel_rfl) (fun _ _ _ h => z8G Tryz.underlying9 h) hd1
 obtain ⟨ds0, e0, hc0⟩ := z4L zdq Tryz.underlying149 (c := 7) (by kernel_rfl) (by kernel_rfl) (fun _ _ _ h => z52 h) hd0
 have k1 : cs1.toList = zax := by
  rw [hc1]
  injection e1 with e1
  rw [← e1]
  rfl
 have k0 : cs0.toList = z1R := by
  rw [hc0]
  injection e0 with e0
  rw [← e0]
  rfl
 refine ⟨fun i v e => ?_, fun i v e => ?_⟩
 ·rw [World.var?_cell hg0 hv0 i, ← Array.getElem?_toList, k0]
  exact e
 ·rw [World.var?_cell hg1 hv1 i, ← Array.getElem?_toList, k1]
  exact e
end Go.Proofs.QP

