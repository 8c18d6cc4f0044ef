import Derived.LoopN
import Derived.Test.YtbkknoipgmlcmaaGreatDoorQCM12
import Derived.Test.YtbkknoipgmlcmaaGreatDoorQCM8
set_option linter.unusedVariables false
set_option linter.unusedSimpArgs false
set_option maxHeartbeats 8000000
set_option maxRecDepth 100000
namespace Go.Proofs.YtbkknoipgmlcmaaGreatDoor.P
open Go.RowKit Go.Proofs.YtbkknoipgmlcmaaGreatDoorW.PrintWords Go.Proofs.YtbkknoipgmlcmaaGreatDoorW.PrintLast Go.Proofs.YtbkknoipgmlcmaaGreatDoorW.PrintMore
open Go.Proofs.FX
def thR (use n many at_ slots ins : Int) : Bool :=
 if use = 1 then decide (0 ≤ n) && decide (n < slots) else if use = 2 then decide (0 ≤ n) && decide (n < ins) else if use = 3 then decide (0 ≤ n) && decide (n < at_)
 else if use = 4 then decide (0 ≤ n) && (decide (n ≤ slots) && decide (many ≤ wrap64 (slots - n))) else true
theorem rthere_calls (use n many at_ slots : Int) (nm : ByteArray) (R1 R2 R4 : Option Addr) (n1 k1 n2 k2 n4 k4 : Nat) (w : World) :
 Calls Tryz.prog 100 #[.int .i64 use, .int .i64 n, .int .i64 many, .int .i64 at_, .agg #[.string nm, .slice R1 n1 k1, .slice R2 n2 k2, .int .i64 slots, .slice R4 n4 k4]] w fun e w' => e = .returned (.bool (thR use n many at_ slots (n4 : Int))) ∧ Below w.heap.size w w' := by
 have hu50 := Tryz.underlying50
 have HR : Aside0 (thR use n many at_ slots (n4 : Int) = thR use n many at_ slots (n4 : Int)) := ⟨rfl⟩
 go_enter Tryz.func100, Tryz.ntmps100
 go_wp2
 all_goals (refine bodyPost_ret (v := .bool (thR use n many at_ slots (n4 : Int))) ?_ rfl ⟨rfl, by repeat (first | exact Below.refl _ _ | apply below_alloc | apply pw_below_drewN | apply below_drew1)⟩)
 all_goals (simp [results, Tryz.results100, go_sem]; unfold thR; simp_all)
 all_goals omega
def knA (l : List S50) (at_ i0 : Int) : Int := if i0 = 26 then ((rd_T50 l at_).f2.length : Int) else 0
def knB (l : List S50) (at_ i0 i1 : Int) : Int := if i0 = 25 ∧ 0 ≤ i1 ∧ i1 < at_ then ((rd_T50 l i1).f1.length : Int) else 0
def knC (l : List S50) (at_ i0 i1 : Int) : Int := if i0 = 25 ∧ 0 ≤ i1 ∧ i1 < at_ then ((rd_T50 l i1).f2.length : Int) else 0
def knR (l : List S50) (at_ i0 i1 i2 i3 f1 f2 f3 : Int) : Bool :=
 thR f1 i1 (knA l at_ i0) at_ (rd_T50 l at_).f3 ((rd_T50 l at_).f4.length : Int) && (thR f2 i2 (knB l at_ i0 i1) at_ (rd_T50 l at_).f3 ((rd_T50 l at_).f4.length : Int) && thR f3 i3 (knC l at_ i0 i1) at_ (rd_T50 l at_).f3 ((rd_T50 l at_).f4.length : Int))
def ref_known.f (l : List S50) (at_ i0 i1 i2 i3 i4 : Int) (i5 : Bool) (i6 i7 : List Int) : Option Bool :=
 if 0 ≤ at_ ∧ at_ < (l.length : Int) then (fluxionref29_Of.f i0).bind fun f => some (knR l at_ i0 i1 i2 i3 f.2.1 f.2.2.1 f.2.2.2.1) else none
theorem ref_known.calls (A0 : Option Addr) (c0 : Nat) (l0 : List S50) (a1 i0 i1 i2 i3 i4 : Int) (i5 : Bool) (A6 : Option Addr) (c6 : Nat) (i6 : List Int) (A7 : Option Addr) (c7 : Nat) (i7 : List Int) (r : Bool) (w : World) (hr0 : Kd.C k50 w A0 l0.length l0) (hc0 : l0.length ≤ c0) (hr6 : Kd.C (Kd.int .u32) w A6 i6.length i6) (hc6 : i6.length ≤ c6) (hr7 : Kd.C (Kd.int .u32) w A7 i7.length i7) (hc7 : i7.length ≤ c7) (h : ref_known.f l0 a1 i0 i1 i2 i3 i4 i5 i6 i7 = some r) :
 Calls Tryz.prog 35 #[.slice A0 l0.length c0, .int .i64 a1, .agg #[.int .i64 i0, .int .i64 i1, .int .i64 i2, .int .i64 i3, .int .i64 i4, .bool i5, .slice A6 i6.length c6, .slice A7 i7.length c7]] w fun e w' => e = .returned (.bool r) ∧ Below w.heap.size w w' := by
 have hu63 := Tryz.underlying63
 have hu50 := Tryz.underlying50
 have hu97 := Tryz.underlying97
 unfold ref_known.f at h
 by_cases hat : 0 ≤ a1 ∧ a1 < (l0.length : Int)
 case neg => rw [if_neg hat] at h; cases h
 rw [if_pos hat] at h
 obtain ⟨⟨f0, f1, f2, f3, f4, f5⟩, hf, h⟩ := bS h
 obtain rfl := sI h
 have HF := aS hf
 have HB := aS (Below.refl w.heap.size w)
 have HR0 := aS hr0
 have HC0 := aS hc0
 have HAT := aS hat
 have fa1 : (0 ≤ a1) = True := eq_true hat.1
 have fa2 : (a1 < (l0.length : Int)) = True := eq_true hat.2
 clear hr0 hc0 hr6 hc6 hr7 hc7 h hf hat
 dsimp only
 unfold knR
 obtain ⟨rr, hrr⟩ : ∃ rr, (thR f1 i1 (knA l0 a1 i0) a1 (rd_T50 l0 a1).f3 ((rd_T50 l0 a1).f4.length : Int) && (thR f2 i2 (knB l0 a1 i0 i1) a1 (rd_T50 l0 a1).f3 ((rd_T50 l0 a1).f4.length : Int) && thR f3 i3 (knC l0 a1 i0 i1) a1 (rd_T50 l0 a1).f3 ((rd_T50 l0 a1).f4.length : Int))) = rr := ⟨_, rfl⟩
 rw [hrr]
 have HJ : Aside0 ((thR f1 i1 (knA l0 a1 i0) a1 (rd_T50 l0 a1).f3 ((rd_T50 l0 a1).f4.length : Int) && (thR f2 i2 (knB l0 a1 i0 i1) a1 (rd_T50 l0 a1).f3 ((rd_T50 l0 a1).f4.length : Int) && thR f3 i3 (knC l0 a1 i0 i1) a1 (rd_T50 l0 a1).f3 ((rd_T50 l0 a1).f4.length : Int))) = rr) := ⟨hrr⟩
 clear hrr
 go_enter Tryz.func35, Tryz.ntmps35
 go_wp2_with fail
 (with_reducible refine (fluxionref29_Of.calls i0 f0 f1 f2 f3 f4 f5 _ HF.out).mono ?_)
 rintro e w1 ⟨rfl, hb⟩
 replace HB := aS (bs_ (below_alloc HB.out _) hb)
 have BX := aS (blk_below (blk_new w _) hb)
 clear hb
 obtain ⟨ad, R1, k1, R2, k2, R4, k4, eA, y0, y1, y2, y3, y4, _, _, _, _, _, _⟩ := at_T50 (Kd.C_below HR0.out HB.out) a1 HAT.out.1 HAT.out.2
 subst eA
 have up : ∀ {A v}, w1.cell? A = some v → ∀ o, (w1.alloc o).cell? A = some v := fun h o => pw_cell_below (below_alloc (Below.refl _ _) o) h
 have x0 := up y0
 have x1 := up y1
 have x2 := up y2
 have x3 := up y3
 have x4 := up y4
 clear up y0 y1 y2 y3 y4
 go_upto_region 4 with fail
 refine at_world (fun W => Below w.heap.size w W ∧ W.heap[w.heap.size]? = some (.cells #[.int .i64 i0, .int .i64 i1, .int .i64 i2, .int .i64 i3, .int .i64 i4, .bool i5, .slice A6 i6.length c6, .slice A7 i7.length c7] 63 (0, 0)) ∧
  W.heap[w1.heap.size]? = some (.cells #[.string f0, .int .i64 f1, .int .i64 f2, .int .i64 f3, .bool f4] 97 (0, 0)) ∧
  W.heap[w1.heap.size + 1]? = some (.cells #[.string (rd_T50 l0 a1).f0, .slice R1 (rd_T50 l0 a1).f1.length k1, .slice R2 (rd_T50 l0 a1).f2.length k2, .int .i64 (rd_T50 l0 a1).f3, .slice R4 (rd_T50 l0 a1).f4.length k4] 50 (0, 0))) ?_ ?_
 ·refine ⟨below_alloc (below_alloc HB.out _) _, blk_alloc (blk_alloc BX.out _) _, blk_alloc (blk_new _ _) _, ?_⟩
  have h := blk_new (w1.alloc (.cells #[.string f0, .int .i64 f1, .int .i64 f2, .int .i64 f3, .bool f4] 97)) (.cells #[.string (rd_T50 l0 a1).f0, .slice R1 (rd_T50 l0 a1).f1.length k1, .slice R2 (rd_T50 l0 a1).f2.length k2, .int .i64 (rd_T50 l0 a1).f3, .slice R4 (rd_T50 l0 a1).f4.length k4] 50)
  rw [show (w1.alloc (.cells #[.string f0, .int .i64 f1, .int .i64 f2, .int .i64 f3, .bool f4] 97)).heap.size = w1.heap.size + 1 by simp] at h
  exact h
 clear x0 x1 x2 x3 x4 HB BX
 rintro w2 ⟨hB, hX, hF, hR⟩
 have HB := aS hB
 have BX := aS hX
 have BF := aS hF
 have BR := aS hR
 clear hB hX hF hR
 obtain ⟨x0, x1, x2, x3, x4, x5, x6, x7⟩ := cells8 BX.out
 obtain ⟨g0, g1, g2, g3, g4⟩ := cells5 BF.out
 obtain ⟨r0, r1, r2, r3, r4⟩ := cells5 BR.out
 by_cases h26 : i0 = 26
 ·have kA : knA l0 a1 i0 = ((rd_T50 l0 a1).f2.length : Int) := by unfold knA; rw [if_pos h26]
  have kB : knB l0 a1 i0 i1 = 0 := by unfold knB; rw [if_neg (by omega)]
  have kC : knC l0 a1 i0 i1 = 0 := by unfold knC; rw [if_neg (by omega)]
  have q1 : (i0 == 26) = true := beq_iff_eq.2 h26
  have q2 : (i0 = 26) = True := eq_true h26
  clear h26
  rw [kA, kB, kC] at HJ
  clear kA kB kC
  rcases Bool.eq_false_or_eq_true (thR f1 i1 ((rd_T50 l0 a1).f2.length : Int) a1 (rd_T50 l0 a1).f3 ((rd_T50 l0 a1).f4.length : Int)) with e1 | e1 <;> rcases Bool.eq_false_or_eq_true (thR f2 i2 0 a1 (rd_T50 l0 a1).f3 ((rd_T50 l0 a1).f4.length : Int)) with e2 | e2 <;> rcases Bool.eq_false_or_eq_true (thR f3 i3 0 a1 (rd_T50 l0 a1).f3 ((rd_T50 l0 a1).f4.length : Int)) with e3 | e3 <;> rw [e1, e2, e3] at HJ
  all_goals (go_wp2_with (go_at_call 100; refine (rthere_calls _ _ _ _ _ _ _ _ _ _ _ _ _ _ _ _).mono ?_; rintro e w3 ⟨rfl, hb⟩; replace HB := aS (bs_ HB.out hb); replace BX := aS (blk_below BX.out hb); replace BF := aS (blk_below BF.out hb); replace BR := aS (blk_below BR.out hb); clear hb x0 x1 x2 x3 x4 x5 x6 x7 g0 g1 g2 g3 g4 r0 r1 r2 r3 r4; obtain ⟨x0, x1, x2, x3, x4, x5, x6, x7⟩ := cells8 BX.out; obtain ⟨g0, g1, g2, g3, g4⟩ := cells5 BF.out; obtain ⟨r0, r1, r2, r3, r4⟩ := cells5 BR.out))
  all_goals (go_ret; exact ⟨by have h9 := HJ.out; rw [← h9]; rfl, HB.out⟩)
 have q1 : (i0 == 26) = false := beq_eq_false_iff_ne.2 h26
 have q2 : (i0 = 26) = False := eq_false h26
 have kA : knA l0 a1 i0 = 0 := by unfold knA; rw [if_neg h26]
 clear h26
 by_cases h25 : i0 = 25; rotate_left
 ·have q3 : (i0 == 25) = false := beq_eq_false_iff_ne.2 h25
  have q4 : (i0 = 25) = False := eq_false h25
  have kB : knB l0 a1 i0 i1 = 0 := by unfold knB; rw [if_neg (fun h => h25 h.1)]
  have kC : knC l0 a1 i0 i1 = 0 := by unfold knC; rw [if_neg (fun h => h25 h.1)]
  clear h25
  rw [kA, kB, kC] at HJ
  clear kA kB kC
  rcases Bool.eq_false_or_eq_true (thR f1 i1 0 a1 (rd_T50 l0 a1).f3 ((rd_T50 l0 a1).f4.length : Int)) with e1 | e1 <;> rcases Bool.eq_false_or_eq_true (thR f2 i2 0 a1 (rd_T50 l0 a1).f3 ((rd_T50 l0 a1).f4.length : Int)) with e2 | e2 <;> rcases Bool.eq_false_or_eq_true (thR f3 i3 0 a1 (rd_T50 l0 a1).f3 ((rd_T50 l0 a1).f4.length : Int)) with e3 | e3 <;> rw [e1, e2, e3] at HJ
  all_goals (go_wp2_with (go_at_call 100; refine (rthere_calls _ _ _ _ _ _ _ _ _ _ _ _ _ _ _ _).mono ?_; rintro e w3 ⟨rfl, hb⟩; replace HB := aS (bs_ HB.out hb); replace BX := aS (blk_below BX.out hb); replace BF := aS (blk_below BF.out hb); replace BR := aS (blk_below BR.out hb); clear hb x0 x1 x2 x3 x4 x5 x6 x7 g0 g1 g2 g3 g4 r0 r1 r2 r3 r4; obtain ⟨x0, x1, x2, x3, x4, x5, x6, x7⟩ := cells8 BX.out; obtain ⟨g0, g1, g2, g3, g4⟩ := cells5 BF.out; obtain ⟨r0, r1, r2, r3, r4⟩ := cells5 BR.out))
  all_goals (go_ret; exact ⟨by have h9 := HJ.out; rw [← h9]; rfl, HB.out⟩)
 have q3 : (i0 == 25) = true := beq_iff_eq.2 h25
 have q4 : (i0 = 25) = True := eq_true h25
 by_cases hr : 0 ≤ i1 ∧ i1 < a1
 ·have kB : knB l0 a1 i0 i1 = ((rd_T50 l0 i1).f1.length : Int) := by unfold knB; rw [if_pos ⟨h25, hr⟩]
  have kC : knC l0 a1 i0 i1 = ((rd_T50 l0 i1).f2.length : Int) := by unfold knC; rw [if_pos ⟨h25, hr⟩]
  have p1 : decide (0 ≤ i1) = true := dT hr.1
  have p2 : decide (i1 < a1) = true := dT hr.2
  have p3 : (0 ≤ i1) = True := eq_true hr.1
  have p4 : (i1 < (l0.length : Int)) = True := eq_true (by have := HAT.out; omega)
  obtain ⟨ad2, Q1, m1, Q2, m2, Q4, m4, eA, y0, y1, y2, y3, y4, _, _, _, _, _, _⟩ := at_T50 (Kd.C_below HR0.out HB.out) i1 hr.1 (by have := HAT.out; omega)
  obtain rfl : ad = ad2 := (by injection eA)
  clear h25 hr
  rw [kA, kB, kC] at HJ
  clear kA kB kC
  rcases Bool.eq_false_or_eq_true (thR f1 i1 0 a1 (rd_T50 l0 a1).f3 ((rd_T50 l0 a1).f4.length : Int)) with e1 | e1 <;> rcases Bool.eq_false_or_eq_true (thR f2 i2 ((rd_T50 l0 i1).f1.length : Int) a1 (rd_T50 l0 a1).f3 ((rd_T50 l0 a1).f4.length : Int)) with e2 | e2 <;> rcases Bool.eq_false_or_eq_true (thR f3 i3 ((rd_T50 l0 i1).f2.length : Int) a1 (rd_T50 l0 a1).f3 ((rd_T50 l0 a1).f4.length : Int)) with e3 | e3 <;> rw [e1, e2, e3] at HJ
  all_goals (go_upto_region 9 with (fail))
  all_goals (go_quiet (fail))
  all_goals (have hb := pw_below_drewN (Below.refl w2.heap.size w2) nq; generalize w2.drewN nq = w4 at hb ⊢; replace HB := aS (bs_ HB.out hb); replace BX := aS (blk_below BX.out hb); replace BF := aS (blk_below BF.out hb); replace BR := aS (blk_below BR.out hb); clear hb x0 x1 x2 x3 x4 x5 x6 x7 g0 g1 g2 g3 g4 r0 r1 r2 r3 r4; obtain ⟨x0, x1, x2, x3, x4, x5, x6, x7⟩ := cells8 BX.out; obtain ⟨g0, g1, g2, g3, g4⟩ := cells5 BF.out; obtain ⟨r0, r1, r2, r3, r4⟩ := cells5 BR.out)
  all_goals (go_wp2_with (go_at_call 100; refine (rthere_calls _ _ _ _ _ _ _ _ _ _ _ _ _ _ _ _).mono ?_; rintro e w3 ⟨rfl, hb⟩; replace HB := aS (bs_ HB.out hb); replace BX := aS (blk_below BX.out hb); replace BF := aS (blk_below BF.out hb); replace BR := aS (blk_below BR.out hb); clear hb x0 x1 x2 x3 x4 x5 x6 x7 g0 g1 g2 g3 g4 r0 r1 r2 r3 r4; obtain ⟨x0, x1, x2, x3, x4, x5, x6, x7⟩ := cells8 BX.out; obtain ⟨g0, g1, g2, g3, g4⟩ := cells5 BF.out; obtain ⟨r0, r1, r2, r3, r4⟩ := cells5 BR.out))
  all_goals (go_ret; exact ⟨by have h9 := HJ.out; rw [← h9]; rfl, HB.out⟩)
 ·have kB : knB l0 a1 i0 i1 = 0 := by unfold knB; rw [if_neg (fun h => hr h.2)]
  have kC : knC l0 a1 i0 i1 = 0 := by unfold knC; rw [if_neg (fun h => hr h.2)]
  clear h25
  by_cases h0 : 0 ≤ i1
  ·have p1 : decide (0 ≤ i1) = true := dT h0
   have p2 : decide (i1 < a1) = false := dF (fun h => hr ⟨h0, h⟩)
   clear h0 hr
   rw [kA, kB, kC] at HJ
   clear kA kB kC
   rcases Bool.eq_false_or_eq_true (thR f1 i1 0 a1 (rd_T50 l0 a1).f3 ((rd_T50 l0 a1).f4.length : Int)) with e1 | e1 <;> rcases Bool.eq_false_or_eq_true (thR f2 i2 0 a1 (rd_T50 l0 a1).f3 ((rd_T50 l0 a1).f4.length : Int)) with e2 | e2 <;> rcases Bool.eq_false_or_eq_true (thR f3 i3 0 a1 (rd_T50 l0 a1).f3 ((rd_T50 l0 a1).f4.length : Int)) with e3 | e3 <;> rw [e1, e2, e3] at HJ
   all_goals (go_wp2_with (go_at_call 100; refine (rthere_calls _ _ _ _ _ _ _ _ _ _ _ _ _ _ _ _).mono ?_; rintro e w3 ⟨rfl, hb⟩; replace HB := aS (bs_ HB.out hb); replace BX := aS (blk_below BX.out hb); replace BF := aS (blk_below BF.out hb); replace BR := aS (blk_below BR.out hb); clear hb x0 x1 x2 x3 x4 x5 x6 x7 g0 g1 g2 g3 g4 r0 r1 r2 r3 r4; obtain ⟨x0, x1, x2, x3, x4, x5, x6, x7⟩ := cells8 BX.out; obtain ⟨g0, g1, g2, g3, g4⟩ := cells5 BF.out; obtain ⟨r0, r1, r2, r3, r4⟩ := cells5 BR.out))
   all_goals (go_ret; exact ⟨by have h9 := HJ.out; rw [← h9]; rfl, HB.out⟩)
  ·have p1 : decide (0 ≤ i1) = false := dF h0
   clear h0 hr
   rw [kA, kB, kC] at HJ
   clear kA kB kC
   rcases Bool.eq_false_or_eq_true (thR f1 i1 0 a1 (rd_T50 l0 a1).f3 ((rd_T50 l0 a1).f4.length : Int)) with e1 | e1 <;> rcases Bool.eq_false_or_eq_true (thR f2 i2 0 a1 (rd_T50 l0 a1).f3 ((rd_T50 l0 a1).f4.length : Int)) with e2 | e2 <;> rcases Bool.eq_false_or_eq_true (thR f3 i3 0 a1 (rd_T50 l0 a1).f3 ((rd_T50 l0 a1).f4.length : Int)) with e3 | e3 <;> rw [e1, e2, e3] at HJ
   all_goals (go_wp2_with (go_at_call 100; refine (rthere_calls _ _ _ _ _ _ _ _ _ _ _ _ _ _ _ _).mono ?_; rintro e w3 ⟨rfl, hb⟩; replace HB := aS (bs_ HB.out hb); replace BX := aS (blk_below BX.out hb); replace BF := aS (blk_below BF.out hb); replace BR := aS (blk_below BR.out hb); clear hb x0 x1 x2 x3 x4 x5 x6 x7 g0 g1 g2 g3 g4 r0 r1 r2 r3 r4; obtain ⟨x0, x1, x2, x3, x4, x5, x6, x7⟩ := cells8 BX.out; obtain ⟨g0, g1, g2, g3, g4⟩ := cells5 BF.out; obtain ⟨r0, r1, r2, r3, r4⟩ := cells5 BR.out))
   all_goals (go_ret; exact ⟨by have h9 := HJ.out; rw [← h9]; rfl, HB.out⟩)
end Go.Proofs.YtbkknoipgmlcmaaGreatDoor.P

