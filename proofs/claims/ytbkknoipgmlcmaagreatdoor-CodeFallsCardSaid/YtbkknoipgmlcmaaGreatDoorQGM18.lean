import Derived.Shelf.Strings.BuilderX
import Derived.Lib.Strings
import Derived.Lib.Slices
import Derived.Lib.Walk
import Derived.Lib.Builder
import Derived.Lib.UnsafeStr
import Derived.Lib.MakeNoZero
import Derived.Test.YtbkknoipgmlcmaaGreatDoorQGM17
set_option linter.all false
set_option maxHeartbeats 8000000
set_option maxRecDepth 100000
namespace Go.Proofs.QP
open Go.RowKit Go.Proofs.PW Go.Proofs.PL Go.Proofs.PM Go.Proofs.FX
section
section
attribute [local go_sem] yd zV
attribute [local go_sem] xf xg xD xE yI yJ xl xm
mutual
def zh.j0 : Nat → List (S50) → Bool → Option (Int × Int × Int)
 | 0, _, _ => none
 | k + 1, x0, x16 => if x16 = true then (some (0, 0, 3)) else (zh.l0 k x0 0)
def zh.l0 : Nat → List (S50) → Int → Option (Int × Int × Int)
 | 0, _, _ => none
 | k + 1, x0, x5 => if x5 < (x0.length : Int) then ((z0h.f x0 x5).bind fun t346 => (if t346 = 0 then (if 0 ≤ x5 then (zh.l1 k x0 x5 ((z8 x0 x5).f4) 0) else (none)) else (some (x5, 0, t346)))) else (some (0, 0, 0))
def zh.l1 : Nat → List (S50) → Int → List (S63) → Int → Option (Int × Int × Int)
 | 0, _, _, _, _ => none
 | k + 1, x0, x5, x7, x8 => if x8 < (x7.length : Int) then (if 0 ≤ x8 then ((zC.f k ((zb x7 x8).f0) ((zb x7 x8).f1) ((zb x7 x8).f2) ((zb x7 x8).f3) ((zb x7 x8).f4.f0) ((zb x7 x8).f4.f1) ((zb x7 x8).f4.f2) ((zb x7 x8).f4.f3)).bind fun t349 => (if t349 = true then ((xz.f x0 x5 ((zb x7 x8).f0) ((zb x7 x8).f1) ((zb x7 x8).f2) ((zb x7 x8).f3) ((zb x7 x8).f4.f0) ((zb x7 x8).f4.f1) ((zb x7 x8).f4.f2) ((zb x7 x8).f4.f3)).bind fun t351 => (if t351 = true then (if x8 = (wrap64 ((x7.length : Int) - 1)) then (if ((zb x7 x8).f0) = 20 then (zh.l1 k x0 x5 x7 (wrap64 (x8 + 1))) else (if ((zb x7 x8).f0) = 26 then (zh.l1 k x0 x5 x7 (wrap64 (x8 + 1))) else (some (x5, x8, 10)))) else (zh.l1 k x0 x5 x7 (wrap64 (x8 + 1)))) else (some (x5, x8, 2)))) else (some (x5, x8, 5)))) else (none)) else (zh.l0 k x0 (wrap64 (x5 + 1)))
end
def zh.f (k : Nat) (l0 : List (S50)) : Option (Int × Int × Int) := if (l0.length : Int) < 1 then (zh.j0 k l0 true) else (zh.j0 k l0 (decide ((l0.length : Int) > 32)))
theorem zh.calls (k : Nat) (A0 : Option Addr) (c0 : Nat) (l0 : List (S50)) (r1 : Int) (r2 : Int) (r3 : Int) (w : World) (hr0 : Kd.C k50 w A0 l0.length l0) (hc0 : l0.length ≤ c0) (h : zh.f k l0 = some (r1, r2, r3)) :
 Calls Tryz.prog 14 #[.slice A0 l0.length c0] w fun e w' => e = .returned (.tuple #[.int .i64 r1, .int .i64 r2, .int .i64 r3]) ∧ Below w.heap.size w w' := by
 have hu63 := Tryz.underlying63
 have HR0 := aS hr0
 have HC0 := aS hc0
 clear hr0 hc0
 have HB := hR w
 have H := h
 unfold zh.f at H
 clear h
 have HC2 := aS H
 clear H
 go_enter Tryz.func14, Tryz.ntmps14
 go_upto_region 1 with (fail)
 go_cut [16] (fun v16 wc => ∃ (kq : Nat) (x16_1 : Bool), v16 = .bool x16_1 ∧ Aside0 (zh.j0 kq l0 x16_1 = some (r1, r2, r3)) ∧ Aside0 (kq ≤ k) ∧ Aside0 (Below w.heap.size w wc))
 case first =>
  have H := HC2.out
  clear HC2
  by_cases c3 : (l0.length : Int) < 1
  ·rw [if_pos c3] at H
   have c3b0 := dT c3
   have c3b1 : decide (l0.length < 1) = true := dT (by omega)
   clear c3
   (first | rw [c3b0] | (simp only [yh, yQ]; rw [c3b0]) | skip)
   have H' := aS H
   clear H
   go_wp2
   go_meet
   case rel => exact ⟨_, (true), rs, H', ⟨by first | omega | exact Nat.le_refl _⟩, ⟨bl HB⟩⟩
  ·rw [if_neg c3] at H
   have c3b0 := dF c3
   have c3b1 : decide (l0.length < 1) = false := dF (by omega)
   clear c3
   (first | rw [c3b0] | (simp only [yh, yQ]; rw [c3b0]) | skip)
   have H' := aS H
   clear H
   go_wp2
   go_meet
   case rel => exact ⟨_, (decide ((l0.length : Int) > 32)), rs, H', ⟨by first | omega | exact Nat.le_refl _⟩, ⟨bl HB⟩⟩
 case rest =>
  clear HC2
  obtain ⟨kq, x16_1, rfl, HA, HJ1, HB⟩ := hcut
  cases kq with
  | zero => exact absurd HA.out (by simp [zh.j0])
  | succ kj1 =>
   have H := HA.out
   clear HA
   simp only [zh.j0] at H
   by_cases c4 : x16_1 = true
   ·subst c4
    rw [if_pos rfl] at H
    simp only [Option.some.injEq, Prod.mk.injEq] at H
    obtain ⟨rfl, rfl, rfl⟩ := H
    go_wp2
    go_ret3
    exact ⟨re, bl HB⟩
   replace c4 := Bool.eq_false_iff.mpr c4
   subst c4
   rw [if_neg iN] at H
   have H' := aS H
   clear H
   go_wp2
   go_loopg [5] kj1 (fun kq v5 w' => ∃ (x5_2 : Int), v5 = .int .i64 x5_2 ∧ Aside0 (zh.l0 kq l0 x5_2 = some (r1, r2, r3)) ∧ Aside0 (kq ≤ kj1) ∧ Aside0 (Below w.heap.size w w'))
   case atStart => exact ⟨(0), rs, H', ⟨Nat.le_refl _⟩, ⟨bl HB⟩⟩
   case round =>
    clear H'
    obtain ⟨x5_2, rfl, HA, HK2, HB⟩ := hrel
    cases gk with
    | zero => exact absurd HA.out (by simp [zh.l0])
    | succ k2 =>
     have H := HA.out
     clear HA
     simp only [zh.l0] at H
     by_cases c5 : x5_2 < (l0.length : Int); rotate_left
     ·rw [if_neg c5] at H
      have c5b0 := dF c5
      clear c5
      simp only [Option.some.injEq, Prod.mk.injEq] at H
      obtain ⟨rfl, rfl, rfl⟩ := H
      go_wp2
      go_ret3
      exact ⟨re, bl HB⟩
     rw [if_pos c5] at H
     have c5b0 := dT c5
     clear c5
     replace H := bA H
     obtain ⟨t346, A6, H⟩ := H
     by_cases c7 : t346 = 0; rotate_left
     ·rw [if_neg c7] at H
      have c7b0 := bF c7
      have c7b1 := nT c7
      simp only [Option.some.injEq, Prod.mk.injEq] at H
      obtain ⟨rfl, rfl, rfl⟩ := H
      go_wp2_with (first | ((with_reducible refine zi (f := 33) rfl ?_); refine gl 25 Tryz.func33 #[.slice A0 l0.length c0, .int .i64 x5_2] ?_; (with_reducible refine (z0h.calls _ _ l0 x5_2 t346 _ ?side1 ?side2 A6.out).mono ?_); (case side1 => exact cb HR0 HB); (case side2 => exact HC0.out); rintro e w30 ⟨rfl, hb⟩; refine ⟨_, rfl, ?_⟩; replace HB := hB_ HB hb; clear hb))
      go_ret3
      exact ⟨re, bl HB⟩
     rw [if_pos c7] at H
     have c7b0 := bT c7
     have c7b1 := nF c7
     clear c7
     replace H := iD_ H
     obtain ⟨c8b0, H⟩ := H
     have H' := aS H
     clear H
     go_wp2_with (first | ((with_reducible refine zi (f := 33) rfl ?_); refine gl 25 Tryz.func33 #[.slice A0 l0.length c0, .int .i64 x5_2] ?_; (with_reducible refine (z0h.calls _ _ l0 x5_2 t346 _ ?side1 ?side2 A6.out).mono ?_); (case side1 => exact cb HR0 HB); (case side2 => exact HC0.out); rintro e w9 ⟨rfl, hb⟩; refine ⟨_, rfl, ?_⟩; replace HB := hB_ HB hb; clear hb; have p347 : 0 ≤ (x5_2 : Int) := oa; have q347 : x5_2 < (l0.length : Int) := oa; obtain ⟨ad347, A347_1, c347_1, A347_2, c347_2, A347_4, c347_4, e347, hx347_0, hx347_1, hx347_2, hx347_3, hx347_4, hl347_1, hi347_1, hl347_2, hi347_2, hl347_4, hi347_4⟩ := xW HR0.out x5_2 p347 q347; cases e347; replace hx347_0 := xb HB hx347_0; replace hx347_1 := xb HB hx347_1; replace hx347_2 := xb HB hx347_2; replace hx347_3 := xb HB hx347_3; replace hx347_4 := xb HB hx347_4; have HR347_1 := aS hi347_1; have HC347_1 := aS hl347_1; clear hi347_1 hl347_1; have HR347_2 := aS hi347_2; have HC347_2 := aS hl347_2; clear hi347_2 hl347_2; have HR347_4 := aS hi347_4; have HC347_4 := aS hl347_4; clear hi347_4 hl347_4; replace p347 := eq_true p347; replace q347 := eq_true q347))
     go_loopg [8] k2 (fun kq v8 w' => ∃ (x8_3 : Int), v8 = .int .i64 x8_3 ∧ Aside0 (zh.l1 kq l0 x5_2 ((z8 l0 x5_2).f4) x8_3 = some (r1, r2, r3)) ∧ Aside0 (kq ≤ k2) ∧ Aside0 (Below w.heap.size w w'))
     case atStart => exact ⟨(0), rs, H', ⟨Nat.le_refl _⟩, ⟨bl HB⟩⟩
     case round =>
      clear H'
      obtain ⟨x8_3, rfl, HA, HK3, HB⟩ := hrel
      cases gk with
      | zero => exact absurd HA.out (by simp [zh.l1])
      | succ k3 =>
       have H := HA.out
       clear HA
       simp only [zh.l1] at H
       by_cases c10 : x8_3 < (((z8 l0 x5_2).f4).length : Int)
       focus
        rw [if_pos c10] at H
        have c10b0 := dT c10
        clear c10
        replace H := iD_ H
        obtain ⟨c11b0, H⟩ := H
        replace H := bA H
        obtain ⟨t349, A12, H⟩ := H
        by_cases c13 : t349 = true
        focus
         subst c13
         rw [if_pos rfl] at H
         replace H := bA H
         obtain ⟨t351, A14, H⟩ := H
         by_cases c15 : t351 = true
         focus
          subst c15
          rw [if_pos rfl] at H
          by_cases c16 : x8_3 = (wrap64 ((((z8 l0 x5_2).f4).length : Int) - 1))
          focus
           rw [if_pos c16] at H
           have c16b0 := bT c16
           have c16b1 := nF c16
           clear c16
           by_cases c17 : ((zb ((z8 l0 x5_2).f4) x8_3).f0) = 20
           focus
            rw [if_pos c17] at H
            have c17b0 := bT c17
            have c17b1 := nF c17
            clear c17
            have H' := aS H
            clear H
            obtain ⟨ad348, A348_6, c348_6, A348_7, c348_7, e348, hx348_0, hx348_1, hx348_2, hx348_3, hx348_4, hx348_5, hx348_6, hx348_7, hl348_6, hi348_6, hl348_7, hi348_7⟩ := z0j HR347_4.out x8_3 oa oa
            cases e348
            replace hx348_0 := xb HB hx348_0
            replace hx348_1 := xb HB hx348_1
            replace hx348_2 := xb HB hx348_2
            replace hx348_3 := xb HB hx348_3
            replace hx348_4 := xb HB hx348_4
            replace hx348_5 := xb HB hx348_5
            replace hx348_6 := xb HB hx348_6
            replace hx348_7 := xb HB hx348_7
            have HR348_6 := aS hi348_6
            have HC348_6 := aS hl348_6
            clear hi348_6 hl348_6
            have HR348_7 := aS hi348_7
            have HC348_7 := aS hl348_7
            clear hi348_7 hl348_7
            have p348 : (0 ≤ (x8_3 : Int)) = True := tO
            have q348 : (x8_3 < (((z8 l0 x5_2).f4).length : Int)) = True := tO
           rotate_left 1
           focus
            rw [if_neg c17] at H
            have c17b0 := bF c17
            have c17b1 := nT c17
            by_cases c20 : ((zb ((z8 l0 x5_2).f4) x8_3).f0) = 26
            focus
             rw [if_pos c20] at H
             have c20b0 := bT c20
             have c20b1 := nF c20
             clear c20
             have H' := aS H
             clear H
             obtain ⟨ad348, A348_6, c348_6, A348_7, c348_7, e348, hx348_0, hx348_1, hx348_2, hx348_3, hx348_4, hx348_5, hx348_6, hx348_7, hl348_6, hi348_6, hl348_7, hi348_7⟩ := z0j HR347_4.out x8_3 oa oa
             cases e348
             replace hx348_0 := xb HB hx348_0
             replace hx348_1 := xb HB hx348_1
             replace hx348_2 := xb HB hx348_2
             replace hx348_3 := xb HB hx348_3
             replace hx348_4 := xb HB hx348_4
             replace hx348_5 := xb HB hx348_5
             replace hx348_6 := xb HB hx348_6
             replace hx348_7 := xb HB hx348_7
             have HR348_6 := aS hi348_6
             have HC348_6 := aS hl348_6
             clear hi348_6 hl348_6
             have HR348_7 := aS hi348_7
             have HC348_7 := aS hl348_7
             clear hi348_7 hl348_7
             have p348 : (0 ≤ (x8_3 : Int)) = True := tO
             have q348 : (x8_3 < (((z8 l0 x5_2).f4).length : Int)) = True := tO
            rotate_left 1
            focus
             rw [if_neg c20] at H
             have c20b0 := bF c20
             have c20b1 := nT c20
             simp only [Option.some.injEq, Prod.mk.injEq] at H
             obtain ⟨rfl, rfl, rfl⟩ := H
             obtain ⟨ad348, A348_6, c348_6, A348_7, c348_7, e348, hx348_0, hx348_1, hx348_2, hx348_3, hx348_4, hx348_5, hx348_6, hx348_7, hl348_6, hi348_6, hl348_7, hi348_7⟩ := z0j HR347_4.out x8_3 oa oa
             cases e348
             replace hx348_0 := xb HB hx348_0
             replace hx348_1 := xb HB hx348_1
             replace hx348_2 := xb HB hx348_2
             replace hx348_3 := xb HB hx348_3
             replace hx348_4 := xb HB hx348_4
             replace hx348_5 := xb HB hx348_5
             replace hx348_6 := xb HB hx348_6
             replace hx348_7 := xb HB hx348_7
             have HR348_6 := aS hi348_6
             have HC348_6 := aS hl348_6
             clear hi348_6 hl348_6
             have HR348_7 := aS hi348_7
             have HC348_7 := aS hl348_7
             clear hi348_7 hl348_7
             have p348 : (0 ≤ (x8_3 : Int)) = True := tO
             have q348 : (x8_3 < (((z8 l0 x5_2).f4).length : Int)) = True := tO
            rotate_left 1
           rotate_left 2
          rotate_left 3
          focus
           rw [if_neg c16] at H
           have c16b0 := bF c16
           have c16b1 := nT c16
           have H' := aS H
           clear H
           obtain ⟨ad348, A348_6, c348_6, A348_7, c348_7, e348, hx348_0, hx348_1, hx348_2, hx348_3, hx348_4, hx348_5, hx348_6, hx348_7, hl348_6, hi348_6, hl348_7, hi348_7⟩ := z0j HR347_4.out x8_3 oa oa
           cases e348
           replace hx348_0 := xb HB hx348_0
           replace hx348_1 := xb HB hx348_1
           replace hx348_2 := xb HB hx348_2
           replace hx348_3 := xb HB hx348_3
           replace hx348_4 := xb HB hx348_4
           replace hx348_5 := xb HB hx348_5
           replace hx348_6 := xb HB hx348_6
           replace hx348_7 := xb HB hx348_7
           have HR348_6 := aS hi348_6
           have HC348_6 := aS hl348_6
           clear hi348_6 hl348_6
           have HR348_7 := aS hi348_7
           have HC348_7 := aS hl348_7
           clear hi348_7 hl348_7
           have p348 : (0 ≤ (x8_3 : Int)) = True := tO
           have q348 : (x8_3 < (((z8 l0 x5_2).f4).length : Int)) = True := tO
          rotate_left 1
         rotate_left 4
         focus
          replace c15 := Bool.eq_false_iff.mpr c15
          subst c15
          rw [if_neg iN] at H
          simp only [Option.some.injEq, Prod.mk.injEq] at H
          obtain ⟨rfl, rfl, rfl⟩ := H
          obtain ⟨ad348, A348_6, c348_6, A348_7, c348_7, e348, hx348_0, hx348_1, hx348_2, hx348_3, hx348_4, hx348_5, hx348_6, hx348_7, hl348_6, hi348_6, hl348_7, hi348_7⟩ := z0j HR347_4.out x8_3 oa oa
          cases e348
          replace hx348_0 := xb HB hx348_0
          replace hx348_1 := xb HB hx348_1
          replace hx348_2 := xb HB hx348_2
          replace hx348_3 := xb HB hx348_3
          replace hx348_4 := xb HB hx348_4
          replace hx348_5 := xb HB hx348_5
          replace hx348_6 := xb HB hx348_6
          replace hx348_7 := xb HB hx348_7
          have HR348_6 := aS hi348_6
          have HC348_6 := aS hl348_6
          clear hi348_6 hl348_6
          have HR348_7 := aS hi348_7
          have HC348_7 := aS hl348_7
          clear hi348_7 hl348_7
          have p348 : (0 ≤ (x8_3 : Int)) = True := tO
          have q348 : (x8_3 < (((z8 l0 x5_2).f4).length : Int)) = True := tO
         rotate_left 1
        rotate_left 5
        focus
         replace c13 := Bool.eq_false_iff.mpr c13
         subst c13
         rw [if_neg iN] at H
         simp only [Option.some.injEq, Prod.mk.injEq] at H
         obtain ⟨rfl, rfl, rfl⟩ := H
         obtain ⟨ad348, A348_6, c348_6, A348_7, c348_7, e348, hx348_0, hx348_1, hx348_2, hx348_3, hx348_4, hx348_5, hx348_6, hx348_7, hl348_6, hi348_6, hl348_7, hi348_7⟩ := z0j HR347_4.out x8_3 oa oa
         cases e348
         replace hx348_0 := xb HB hx348_0
         replace hx348_1 := xb HB hx348_1
         replace hx348_2 := xb HB hx348_2
         replace hx348_3 := xb HB hx348_3
         replace hx348_4 := xb HB hx348_4
         replace hx348_5 := xb HB hx348_5
         replace hx348_6 := xb HB hx348_6
         replace hx348_7 := xb HB hx348_7
         have HR348_6 := aS hi348_6
         have HC348_6 := aS hl348_6
         clear hi348_6 hl348_6
         have HR348_7 := aS hi348_7
         have HC348_7 := aS hl348_7
         clear hi348_7 hl348_7
         have p348 : (0 ≤ (x8_3 : Int)) = True := tO
         have q348 : (x8_3 < (((z8 l0 x5_2).f4).length : Int)) = True := tO
        rotate_left 1
       rotate_left 6
       focus
        rw [if_neg c10] at H
        have c10b0 := dF c10
        clear c10
        have H' := aS H
        clear H
        go_wp2
        go_roundg k3
        case measure => have := HJ1.out; have := HK2.out; have := HK3.out; omega
        case rel => exact ⟨(wrap64 (x5_2 + 1)), rs, H', ⟨by have := HJ1.out; have := HK2.out; have := HK3.out; omega⟩, ⟨bl HB⟩⟩
       all_goals (go_wp2_with (first | ((with_reducible refine zi (f := 34) rfl ?_); refine gl 46 Tryz.func34 #[.agg #[.int .i64 ((zb ((z8 l0 x5_2).f4) x8_3).f0), .int .i64 ((zb ((z8 l0 x5_2).f4) x8_3).f1), .int .i64 ((zb ((z8 l0 x5_2).f4) x8_3).f2), .int .i64 ((zb ((z8 l0 x5_2).f4) x8_3).f3), .int .i64 ((zb ((z8 l0 x5_2).f4) x8_3).f4.f0), .bool ((zb ((z8 l0 x5_2).f4) x8_3).f4.f1), .slice A348_6 ((zb ((z8 l0 x5_2).f4) x8_3).f4.f2).length c348_6, .slice A348_7 ((zb ((z8 l0 x5_2).f4) x8_3).f4.f3).length c348_7]] ?_; (with_reducible refine (zC.calls k3 ((zb ((z8 l0 x5_2).f4) x8_3).f0) ((zb ((z8 l0 x5_2).f4) x8_3).f1) ((zb ((z8 l0 x5_2).f4) x8_3).f2) ((zb ((z8 l0 x5_2).f4) x8_3).f3) ((zb ((z8 l0 x5_2).f4) x8_3).f4.f0) ((zb ((z8 l0 x5_2).f4) x8_3).f4.f1) _ _ ((zb ((z8 l0 x5_2).f4) x8_3).f4.f2) _ _ ((zb ((z8 l0 x5_2).f4) x8_3).f4.f3) true _ ?side1 ?side2 ?side3 ?side4 A12.out).mono ?_); (case side1 => exact cb HR348_6 HB); (case side2 => exact HC348_6.out); (case side3 => exact cb HR348_7 HB); (case side4 => exact HC348_7.out); rintro e wq1 ⟨rfl, hb⟩; refine ⟨_, rfl, ?_⟩; replace HB := hB_ HB hb; clear hb; have p350 : 0 ≤ (x8_3 : Int) := oa; have q350 : x8_3 < (((z8 l0 x5_2).f4).length : Int) := oa; obtain ⟨ad350, A350_6, c350_6, A350_7, c350_7, e350, hx350_0, hx350_1, hx350_2, hx350_3, hx350_4, hx350_5, hx350_6, hx350_7, hl350_6, hi350_6, hl350_7, hi350_7⟩ := z0j HR347_4.out x8_3 p350 q350; obtain rfl : ad348 = ad350 := (by injection e350); replace hx350_0 := xb HB hx350_0; replace hx350_1 := xb HB hx350_1; replace hx350_2 := xb HB hx350_2; replace hx350_3 := xb HB hx350_3; replace hx350_4 := xb HB hx350_4; replace hx350_5 := xb HB hx350_5; replace hx350_6 := xb HB hx350_6; replace hx350_7 := xb HB hx350_7; have HR350_6 := aS hi350_6; have HC350_6 := aS hl350_6; clear hi350_6 hl350_6; have HR350_7 := aS hi350_7; have HC350_7 := aS hl350_7; clear hi350_7 hl350_7; replace p350 := eq_true p350; replace q350 := eq_true q350) | ((with_reducible refine zi (f := 35) rfl ?_); refine gl 57 Tryz.func35 #[.slice (some ad347) l0.length c0, .int .i64 x5_2, .agg #[.int .i64 ((zb ((z8 l0 x5_2).f4) x8_3).f0), .int .i64 ((zb ((z8 l0 x5_2).f4) x8_3).f1), .int .i64 ((zb ((z8 l0 x5_2).f4) x8_3).f2), .int .i64 ((zb ((z8 l0 x5_2).f4) x8_3).f3), .int .i64 ((zb ((z8 l0 x5_2).f4) x8_3).f4.f0), .bool ((zb ((z8 l0 x5_2).f4) x8_3).f4.f1), .slice A350_6 ((zb ((z8 l0 x5_2).f4) x8_3).f4.f2).length c350_6, .slice A350_7 ((zb ((z8 l0 x5_2).f4) x8_3).f4.f3).length c350_7]] ?_; (with_reducible refine (xz.calls _ _ l0 x5_2 ((zb ((z8 l0 x5_2).f4) x8_3).f0) ((zb ((z8 l0 x5_2).f4) x8_3).f1) ((zb ((z8 l0 x5_2).f4) x8_3).f2) ((zb ((z8 l0 x5_2).f4) x8_3).f3) ((zb ((z8 l0 x5_2).f4) x8_3).f4.f0) ((zb ((z8 l0 x5_2).f4) x8_3).f4.f1) _ _ ((zb ((z8 l0 x5_2).f4) x8_3).f4.f2) _ _ ((zb ((z8 l0 x5_2).f4) x8_3).f4.f3) true _ ?side1 ?side2 ?side3 ?side4 ?side5 ?side6 A14.out).mono ?_); (case side1 => exact cb HR0 HB); (case side2 => exact HC0.out); (case side3 => exact cb HR350_6 HB); (case side4 => exact HC350_6.out); (case side5 => exact cb HR350_7 HB); (case side6 => exact HC350_7.out); rintro e wq2 ⟨rfl, hb⟩; refine ⟨_, rfl, ?_⟩; replace HB := hB_ HB hb; clear hb; have p352 : 0 ≤ (x8_3 : Int) := oa; have q352 : x8_3 < (((z8 l0 x5_2).f4).length : Int) := oa; obtain ⟨ad352, A352_6, c352_6, A352_7, c352_7, e352, hx352_0, hx352_1, hx352_2, hx352_3, hx352_4, hx352_5, hx352_6, hx352_7, hl352_6, hi352_6, hl352_7, hi352_7⟩ := z0j HR347_4.out x8_3 p352 q352; obtain rfl : ad348 = ad352 := (by injection e352); replace hx352_0 := xb HB hx352_0; replace hx352_1 := xb HB hx352_1; replace hx352_2 := xb HB hx352_2; replace hx352_3 := xb HB hx352_3; replace hx352_4 := xb HB hx352_4; replace hx352_5 := xb HB hx352_5; replace hx352_6 := xb HB hx352_6; replace hx352_7 := xb HB hx352_7; have HR352_6 := aS hi352_6; have HC352_6 := aS hl352_6; clear hi352_6 hl352_6; have HR352_7 := aS hi352_7; have HC352_7 := aS hl352_7; clear hi352_7 hl352_7; replace p352 := eq_true p352; replace q352 := eq_true q352) | ((with_reducible refine zi (f := 35) rfl ?_); refine gl 57 Tryz.func35 #[.slice (some ad347) l0.length c0, .int .i64 x5_2, .agg #[.int .i64 ((zb ((z8 l0 x5_2).f4) x8_3).f0), .int .i64 ((zb ((z8 l0 x5_2).f4) x8_3).f1), .int .i64 ((zb ((z8 l0 x5_2).f4) x8_3).f2), .int .i64 ((zb ((z8 l0 x5_2).f4) x8_3).f3), .int .i64 ((zb ((z8 l0 x5_2).f4) x8_3).f4.f0), .bool ((zb ((z8 l0 x5_2).f4) x8_3).f4.f1), .slice A350_6 ((zb ((z8 l0 x5_2).f4) x8_3).f4.f2).length c350_6, .slice A350_7 ((zb ((z8 l0 x5_2).f4) x8_3).f4.f3).length c350_7]] ?_; (with_reducible refine (xz.calls _ _ l0 x5_2 ((zb ((z8 l0 x5_2).f4) x8_3).f0) ((zb ((z8 l0 x5_2).f4) x8_3).f1) ((zb ((z8 l0 x5_2).f4) x8_3).f2) ((zb ((z8 l0 x5_2).f4) x8_3).f3) ((zb ((z8 l0 x5_2).f4) x8_3).f4.f0) ((zb ((z8 l0 x5_2).f4) x8_3).f4.f1) _ _ ((zb ((z8 l0 x5_2).f4) x8_3).f4.f2) _ _ ((zb ((z8 l0 x5_2).f4) x8_3).f4.f3) true _ ?side1 ?side2 ?side3 ?side4 ?side5 ?side6 A14.out).mono ?_); (case side1 => exact cb HR0 HB); (case side2 => exact HC0.out); (case side3 => exact cb HR350_6 HB); (case side4 => exact HC350_6.out); (case side5 => exact cb HR350_7 HB); (case side6 => exact HC350_7.out); rintro e wq2 ⟨rfl, hb⟩; refine ⟨_, rfl, ?_⟩; replace HB := hB_ HB hb; clear hb; have p352 : 0 ≤ (x8_3 : Int) := oa; have q352 : x8_3 < (((z8 l0 x5_2).f4).length : Int) := oa; obtain ⟨ad352, A352_6, c352_6, A352_7, c352_7, e352, hx352_0, hx352_1, hx352_2, hx352_3, hx352_4, hx352_5, hx352_6, hx352_7, hl352_6, hi352_6, hl352_7, hi352_7⟩ := z0j HR347_4.out x8_3 p352 q352; obtain rfl : ad348 = ad352 := (by injection e352); replace hx352_0 := xb HB hx352_0; replace hx352_1 := xb HB hx352_1; replace hx352_2 := xb HB hx352_2; replace hx352_3 := xb HB hx352_3; replace hx352_4 := xb HB hx352_4; replace hx352_5 := xb HB hx352_5; replace hx352_6 := xb HB hx352_6; replace hx352_7 := xb HB hx352_7; have HR352_6 := aS hi352_6; have HC352_6 := aS hl352_6; clear hi352_6 hl352_6; have HR352_7 := aS hi352_7; have HC352_7 := aS hl352_7; clear hi352_7 hl352_7; replace p352 := eq_true p352; replace q352 := eq_true q352; have p353 : 0 ≤ (x8_3 : Int) := oa; have q353 : x8_3 < (((z8 l0 x5_2).f4).length : Int) := oa; obtain ⟨ad353, A353_6, c353_6, A353_7, c353_7, e353, hx353_0, hx353_1, hx353_2, hx353_3, hx353_4, hx353_5, hx353_6, hx353_7, hl353_6, hi353_6, hl353_7, hi353_7⟩ := z0j HR347_4.out x8_3 p353 q353; obtain rfl : ad348 = ad353 := (by injection e353); replace hx353_0 := xb HB hx353_0; replace hx353_1 := xb HB hx353_1; replace hx353_2 := xb HB hx353_2; replace hx353_3 := xb HB hx353_3; replace hx353_4 := xb HB hx353_4; replace hx353_5 := xb HB hx353_5; replace hx353_6 := xb HB hx353_6; replace hx353_7 := xb HB hx353_7; have HR353_6 := aS hi353_6; have HC353_6 := aS hl353_6; clear hi353_6 hl353_6; have HR353_7 := aS hi353_7; have HC353_7 := aS hl353_7; clear hi353_7 hl353_7; replace p353 := eq_true p353; replace q353 := eq_true q353; have ea_ := sI (hx352_6.symm.trans hx353_6); injection ea_ with ea_ en_ ec_; subst ea_; subst ec_; clear en_; have ea_ := sI (hx352_7.symm.trans hx353_7); injection ea_ with ea_ en_ ec_; subst ea_; subst ec_; clear en_) | ((with_reducible refine zi (f := 35) rfl ?_); refine gl 57 Tryz.func35 #[.slice (some ad347) l0.length c0, .int .i64 x5_2, .agg #[.int .i64 ((zb ((z8 l0 x5_2).f4) x8_3).f0), .int .i64 ((zb ((z8 l0 x5_2).f4) x8_3).f1), .int .i64 ((zb ((z8 l0 x5_2).f4) x8_3).f2), .int .i64 ((zb ((z8 l0 x5_2).f4) x8_3).f3), .int .i64 ((zb ((z8 l0 x5_2).f4) x8_3).f4.f0), .bool ((zb ((z8 l0 x5_2).f4) x8_3).f4.f1), .slice A350_6 ((zb ((z8 l0 x5_2).f4) x8_3).f4.f2).length c350_6, .slice A350_7 ((zb ((z8 l0 x5_2).f4) x8_3).f4.f3).length c350_7]] ?_; (with_reducible refine (xz.calls _ _ l0 x5_2 ((zb ((z8 l0 x5_2).f4) x8_3).f0) ((zb ((z8 l0 x5_2).f4) x8_3).f1) ((zb ((z8 l0 x5_2).f4) x8_3).f2) ((zb ((z8 l0 x5_2).f4) x8_3).f3) ((zb ((z8 l0 x5_2).f4) x8_3).f4.f0) ((zb ((z8 l0 x5_2).f4) x8_3).f4.f1) _ _ ((zb ((z8 l0 x5_2).f4) x8_3).f4.f2) _ _ ((zb ((z8 l0 x5_2).f4) x8_3).f4.f3) true _ ?side1 ?side2 ?side3 ?side4 ?side5 ?side6 A14.out).mono ?_); (case side1 => exact cb HR0 HB); (case side2 => exact HC0.out); (case side3 => exact cb HR350_6 HB); (case side4 => exact HC350_6.out); (case side5 => exact cb HR350_7 HB); (case side6 => exact HC350_7.out); rintro e wq2 ⟨rfl, hb⟩; refine ⟨_, rfl, ?_⟩; replace HB := hB_ HB hb; clear hb) | ((with_reducible refine zi (f := 35) rfl ?_); refine gl 57 Tryz.func35 #[.slice (some ad347) l0.length c0, .int .i64 x5_2, .agg #[.int .i64 ((zb ((z8 l0 x5_2).f4) x8_3).f0), .int .i64 ((zb ((z8 l0 x5_2).f4) x8_3).f1), .int .i64 ((zb ((z8 l0 x5_2).f4) x8_3).f2), .int .i64 ((zb ((z8 l0 x5_2).f4) x8_3).f3), .int .i64 ((zb ((z8 l0 x5_2).f4) x8_3).f4.f0), .bool ((zb ((z8 l0 x5_2).f4) x8_3).f4.f1), .slice A350_6 ((zb ((z8 l0 x5_2).f4) x8_3).f4.f2).length c350_6, .slice A350_7 ((zb ((z8 l0 x5_2).f4) x8_3).f4.f3).length c350_7]] ?_; (with_reducible refine (xz.calls _ _ l0 x5_2 ((zb ((z8 l0 x5_2).f4) x8_3).f0) ((zb ((z8 l0 x5_2).f4) x8_3).f1) ((zb ((z8 l0 x5_2).f4) x8_3).f2) ((zb ((z8 l0 x5_2).f4) x8_3).f3) ((zb ((z8 l0 x5_2).f4) x8_3).f4.f0) ((zb ((z8 l0 x5_2).f4) x8_3).f4.f1) _ _ ((zb ((z8 l0 x5_2).f4) x8_3).f4.f2) _ _ ((zb ((z8 l0 x5_2).f4) x8_3).f4.f3) false _ ?side1 ?side2 ?side3 ?side4 ?side5 ?side6 A14.out).mono ?_); (case side1 => exact cb HR0 HB); (case side2 => exact HC0.out); (case side3 => exact cb HR350_6 HB); (case side4 => exact HC350_6.out); (case side5 => exact cb HR350_7 HB); (case side6 => exact HC350_7.out); rintro e wq2 ⟨rfl, hb⟩; refine ⟨_, rfl, ?_⟩; replace HB := hB_ HB hb; clear hb) | ((with_reducible refine zi (f := 34) rfl ?_); refine gl 46 Tryz.func34 #[.agg #[.int .i64 ((zb ((z8 l0 x5_2).f4) x8_3).f0), .int .i64 ((zb ((z8 l0 x5_2).f4) x8_3).f1), .int .i64 ((zb ((z8 l0 x5_2).f4) x8_3).f2), .int .i64 ((zb ((z8 l0 x5_2).f4) x8_3).f3), .int .i64 ((zb ((z8 l0 x5_2).f4) x8_3).f4.f0), .bool ((zb ((z8 l0 x5_2).f4) x8_3).f4.f1), .slice A348_6 ((zb ((z8 l0 x5_2).f4) x8_3).f4.f2).length c348_6, .slice A348_7 ((zb ((z8 l0 x5_2).f4) x8_3).f4.f3).length c348_7]] ?_; (with_reducible refine (zC.calls k3 ((zb ((z8 l0 x5_2).f4) x8_3).f0) ((zb ((z8 l0 x5_2).f4) x8_3).f1) ((zb ((z8 l0 x5_2).f4) x8_3).f2) ((zb ((z8 l0 x5_2).f4) x8_3).f3) ((zb ((z8 l0 x5_2).f4) x8_3).f4.f0) ((zb ((z8 l0 x5_2).f4) x8_3).f4.f1) _ _ ((zb ((z8 l0 x5_2).f4) x8_3).f4.f2) _ _ ((zb ((z8 l0 x5_2).f4) x8_3).f4.f3) false _ ?side1 ?side2 ?side3 ?side4 A12.out).mono ?_); (case side1 => exact cb HR348_6 HB); (case side2 => exact HC348_6.out); (case side3 => exact cb HR348_7 HB); (case side4 => exact HC348_7.out); rintro e wq1 ⟨rfl, hb⟩; refine ⟨_, rfl, ?_⟩; replace HB := hB_ HB hb; clear hb)))
       ·go_roundg k3
        case measure => have := HJ1.out; have := HK2.out; have := HK3.out; omega
        case rel => exact ⟨(wrap64 (x8_3 + 1)), rs, H', ⟨by have := HJ1.out; have := HK2.out; have := HK3.out; omega⟩, ⟨bl HB⟩⟩
       ·go_roundg k3
        case measure => have := HJ1.out; have := HK2.out; have := HK3.out; omega
        case rel => exact ⟨(wrap64 (x8_3 + 1)), rs, H', ⟨by have := HJ1.out; have := HK2.out; have := HK3.out; omega⟩, ⟨bl HB⟩⟩
       ·go_ret3
        exact ⟨re, bl HB⟩
       ·go_roundg k3
        case measure => have := HJ1.out; have := HK2.out; have := HK3.out; omega
        case rel => exact ⟨(wrap64 (x8_3 + 1)), rs, H', ⟨by have := HJ1.out; have := HK2.out; have := HK3.out; omega⟩, ⟨bl HB⟩⟩
       ·go_ret3
        exact ⟨re, bl HB⟩
       ·go_ret3
        exact ⟨re, bl HB⟩
end
end
end Go.Proofs.QP

namespace Go.Proofs.B
open Go.Shelf Go.RowKit
theorem infoByte : (Tryz.prog.info? 5).map (fun i => (i.zero, i.size, i.bytes)) = some (some (.int .u8 0), 1, 1) := by kernel_rfl
theorem sizeBuilder : (Tryz.prog.info? 85).map (fun i => i.size) = some 2 := by kernel_rfl
theorem z4H (b : Nat) (w : World) (h0 : w.cell? ⟨b, 0, none⟩ = some (.pointer (some ⟨b, 0, none⟩))) :
 Calls Tryz.prog 103 #[.pointer (some ⟨b, 0, none⟩)] w fun e w' => e = .returned (.tuple #[]) ∧ w' = w := by
 obtain ⟨j, hj, _⟩ := Option.map_eq_some_iff.1 sizeBuilder
 go_enter Tryz.func103, Tryz.ntmps103
 go_wp2
 rw [Lib.run_neq_ptr_same w _ Tryz.underlying83 hj]
 go_wp2
 go_end0
 exact ⟨rfl, rfl⟩
theorem liesBuilder : liesAt Tryz.prog Tryz.prog.depth 85 (2 / Tryz.prog.cellsOf 85) 0 85 1 = true := by kernel_rfl
theorem z4g (b : Nat) (w : World) (h0 : w.cell? ⟨b, 0, none⟩ = some (.pointer none)) (hsh : w.shape? b = some (85, 2)) (hfz : w.frozen? ⟨b, 0, none⟩ = false) :
 Calls Tryz.prog 103 #[.pointer (some ⟨b, 0, none⟩)] w fun e w' => e = .returned (.tuple #[]) ∧ w' = w.setCell ⟨b, 0, none⟩ (.pointer (some ⟨b, 0, none⟩)) := by
 obtain ⟨j, hj, hjs⟩ := Option.map_eq_some_iff.1 sizeBuilder
 go_enter Tryz.func103, Tryz.ntmps103
 go_wp2
 rw [Lib.run_to_unsafe w ⟨b, 0, none⟩ Tryz.underlying83 Tryz.underlying184 hj (by rw [hjs]; decide) hsh (Nat.zero_lt_succ 1)]
 simp only [Result.andThen]
 rw [Oper.upon_value]
 go_wp2
 rw [run_callFunc_extern Tryz.func145 (by kernel_rfl) (by kernel_rfl) (by kernel_rfl) (e := Extern.AbiNoEscape.same) (by kernel_rfl)]
 rw [Lib.run_noEscape]
 simp only [Result.andThen]
 rw [Oper.upon_value]
 go_wp2
 rw [Lib.run_from_unsafe w ⟨b, 0, none⟩ Tryz.underlying184 Tryz.underlying83 hj hsh liesBuilder]
 simp only [Result.andThen]
 rw [Oper.upon_value]
 go_wp2
 go_end0
 exact ⟨rfl, rfl⟩
theorem z8Z (B b : Nat) (bs : List Value) (w : World) (h : Lib.IsBuilderF 85 5 B b bs w) :
 Calls Tryz.prog 103 #[.pointer (some ⟨b, 0, none⟩)] w fun e w' => e = .returned (.tuple #[]) ∧ (Lib.BuilderAtF 85 5 B b (.pointer (some ⟨b, 0, none⟩)) bs w' ∧ Below B w w' ∧ Lib.OthersKept 5 (some b) w w') := by
 rcases h with h | h
 ·refine (z4g b w h.cell0 h.shape h.frozen0).mono ?_
  rintro e w' ⟨rfl, rfl⟩
  exact ⟨rfl, h.used _, (Below.refl B w).setCell (p := ⟨b, 0, none⟩) h.1 _, (Lib.OthersKept.refl _ _ w).setCell ⟨b, 0, none⟩ rfl _⟩
 ·refine (z4H b w h.cell0).mono ?_
  rintro e w' ⟨rfl, rfl⟩
  exact ⟨rfl, h, Below.refl B _, Lib.OthersKept.refl _ _ _⟩
theorem writeString (B b : Nat) (bs : List Value) (s : ByteArray) (w : World) (h : Lib.IsBuilderF 85 5 B b bs w) (hlen : bs.length + s.size ≤ 140737488355328) (hBw : B ≤ w.heap.size) :
 Calls Tryz.prog 46 #[.pointer (some ⟨b, 0, none⟩), .string s] w fun e w' => e = .returned (.tuple #[.int .i64 s.size, .nilIface]) ∧ (Lib.BuilderAtF 85 5 B b (.pointer (some ⟨b, 0, none⟩)) (bs ++ Lib.strCells s) w' ∧ Below B w w' ∧ Lib.OthersKept 5 (some b) w w') := by
 obtain ⟨i0, hi, hz0, hz1, hz2⟩ := info_parts infoByte
 go_enter Tryz.func46, Tryz.ntmps46
 go_wp2_with (go_at_call 103; refine (z8Z B b bs _ h).mono ?_)
 rintro e w1 ⟨rfl, h1, hb1, hk1⟩
 obtain ⟨hB, v, hbk, hown, hne⟩ := h1
 have c0 : w1.cell? ⟨b, 0, none⟩ = some (.pointer (some ⟨b, 0, none⟩)) := by rw [Lib.cell_of_heap hbk]; rfl
 have c1 : w1.cell? ⟨b, 1, none⟩ = some v := by rw [Lib.cell_of_heap hbk]; rfl
 go_wp2_with (at_builtin; refine Lib.wpList_append_own_stringF _ rfl _ _ 30 9 rfl B 5 i0 Tryz.underlying30 Tryz.underlying9 hi hz0 hz1 hz2 _ _ _ rfl hown s rfl ?c3 ?c4 ?c5 ?_)
 case c3 => unfold maxLen; omega
 case c4 => omega
 case c5 => have := hb1.size; omega
 intro v' w2 hown' hgrow _
 have hlt : b < w1.heap.size := by
  rcases Nat.lt_or_ge b w1.heap.size with h' | h'
  ·exact h'
  ·simp [Array.getElem?_eq_none h'] at hbk
 have hb2 : w2.heap[b]? = some (.cells #[.pointer (some ⟨b, 0, none⟩), v] 85 (0, 0)) := by
  rw [hgrow.block b hlt (fun e => hne e.symm)]
  exact hbk
 have d0 : w2.cell? ⟨b, 0, none⟩ = some (.pointer (some ⟨b, 0, none⟩)) := by rw [Lib.cell_of_heap hb2]; rfl
 have d1 : w2.cell? ⟨b, 1, none⟩ = some v := by rw [Lib.cell_of_heap hb2]; rfl
 have f1 : w2.frozen? ⟨b, 1, none⟩ = false := Lib.frozen_of_heap hb2 1
 obtain ⟨ao, n', cap, rfl⟩ : ∃ ao n' cap, v' = .slice ao n' cap := by
  rcases hown'.2 with ⟨hv, _⟩ | ⟨g, cap, cur, fz, hv, _⟩
  ·exact ⟨_, _, _, hv⟩
  ·exact ⟨_, _, _, hv⟩
 go_wp2
 go_ret2
 refine ⟨rfl, ?_, ?_, (hk1.grown hgrow (Lib.ownsRowF_kind hown)).setCell ⟨b, 1, none⟩ rfl _⟩
 ·exact Lib.BuilderAtF.put (T := 85) (e := 5) hB hb2 (bs' := bs ++ Lib.strCells s) (by simpa [Lib.strCells_length] using hown') (by decide)
 ·exact (hb1.grown hgrow (by have := hb1.size; omega) (fun k hk => (hown.lt k hk).1)).setCell (p := ⟨b, 1, none⟩) hB _
end Go.Proofs.B

namespace Go.Proofs.QP
open Go.RowKit Go.Proofs.PW Go.Proofs.PL Go.Proofs.PM Go.Proofs.FX
theorem za2 (A0 : Option Addr) (c0 : Nat) (w : World) (hG : GW w) (hr0 : Kd.C k50 w A0 1 [sqR]) (hc0 : 1 ≤ c0) : Calls Tryz.prog 12 #[.slice A0 1 c0] w fun e w' => e = .returned (.tuple #[.int .i64 0, .int .i64 0, .int .i64 0]) ∧ Below w.heap.size w w' :=
 zt.calls 30 A0 c0 [sqR] 0 0 0 w hG hr0 hc0 (by kernel_rfl)
theorem z5D (A0 : Option Addr) (c0 : Nat) (w : World) (hG : GW w) (hr0 : Kd.C k50 w A0 1 [sqR]) (hc0 : 1 ≤ c0) : Calls Tryz.prog 13 #[.slice A0 1 c0] w fun e w' => e = .returned (.bool true) ∧ Below w.heap.size w w' :=
 yF.calls 30 A0 c0 [sqR] true w hG hr0 hc0 (by kernel_rfl)
def strings_Join.f (l : List ByteArray) (_ : ByteArray) : Option ByteArray := match l with | [] => some ⟨#[]⟩ | [x] => some x | _ => none
theorem join_one (ad : Addr) (c : Nat) (x s : ByteArray) (w : World) (h : w.cell? ad = some (.string x)) :
 Calls Tryz.prog 105 #[.slice (some ad) 1 c, .string s] w fun e w' => e = .returned (.string x) ∧ Below w.heap.size w w' := by
 obtain ⟨ab, ao, asl⟩ := ad
 go_enter Tryz.func105, Tryz.ntmps105
 go_wp2
 go_ret
 exact ⟨rfl, Below.refl _ _⟩
theorem strings_Join.calls (A0 : Option Addr) (c0 : Nat) (l0 : List ByteArray) (a1 : ByteArray) (r : ByteArray) (w : World) (hr0 : Kd.C Kd.string w A0 l0.length l0) (hc0 : l0.length ≤ c0) (h : strings_Join.f l0 a1 = some r) :
 Calls Tryz.prog 105 #[.slice A0 l0.length c0, .string a1] w fun e w' => e = .returned (.string r) ∧ Below w.heap.size w w' := by
 match l0, h with
 | [], h =>
  obtain rfl := Option.some.inj h
  refine (Tryz.strings_Join_none A0 c0 a1 w).mono ?_
  rintro e w' ⟨rfl, rfl⟩
  exact ⟨rfl, Below.refl _ _⟩
 | [x], h =>
  obtain rfl := Option.some.inj h
  obtain ⟨ad, rfl, hx⟩ := Kd.z8S hr0 0 (by decide) (by simp)
  exact join_one ad c0 x a1 w hx
 | _ :: _ :: _, h => cases h
section
section
attribute [local go_sem] yd zV
attribute [local go_sem] xf xg xD xE yI yJ xl xm
def z07.l0 : Nat → List ByteArray → List (xx) → Int → Int → Option (ByteArray)
 | 0, _, _, _, _ => none
 | k + 1, x3, x8, x9, x10 => if x10 < x9 then (if 0 ≤ x10 then (if x10 < (x8.length : Int) then ((z01.f k ((yg x8 x10).f0) ((yg x8 x10).f1)).bind fun bt392 => (if x3.length < 8796093022208 then (z07.l0 k (x3 ++ [bt392.1]) x8 x9 (wrap64 (x10 + 1))) else (none))) else (none)) else (none)) else ((strings_Join.f x3 (⟨#[44, 32]⟩ : ByteArray)).bind fun t397 => (if 1 + t397.size ≤ 9223372036854775807 then (if ((⟨#[40]⟩ : ByteArray) ++ t397).size + 1 ≤ 9223372036854775807 then (some (((⟨#[40]⟩ : ByteArray) ++ t397) ++ (⟨#[41]⟩ : ByteArray))) else (none)) else (none)))
def z07.f (k : Nat) (l0 : List (xx)) : Option (ByteArray) := z07.l0 k ([] : List ByteArray) l0 (l0.length : Int) 0
theorem z07.calls (k : Nat) (A0 : Option Addr) (c0 : Nat) (l0 : List (xx)) (r : ByteArray) (w : World) (hG : GW w) (hr0 : Kd.C xC w A0 l0.length l0) (hc0 : l0.length ≤ c0) (h : z07.f k l0 = some r) :
 Calls Tryz.prog 47 #[.slice A0 l0.length c0] w fun e w' => e = .returned (.string r) ∧ Below w.heap.size w w' := by
 have hu115 := Tryz.underlying115
 have HR0 := aS hr0
 have HC0 := aS hc0
 clear hr0 hc0
 have HG := aS hG
 clear hG
 have HB := hR w
 have H := h
 unfold z07.f at H
 clear h
 have H' := aS H
 clear H
 go_enter Tryz.func47, Tryz.ntmps47
 go_wp2
 go_loopg [3, 10] k (fun kq v3 v10 w' => ∃ (x3_1 : List ByteArray) (x10_1 : Int), v10 = .int .i64 x10_1 ∧ Aside0 (z07.l0 kq x3_1 l0 (l0.length : Int) x10_1 = some r) ∧ Aside0 (kq ≤ k) ∧ Aside0 (Kd.R Kd.string 9 w' w.heap.size (fun _ => True) v3 x3_1) ∧ Aside0 (Below w.heap.size w w'))
 case atStart => exact ⟨(([] : List ByteArray)), (0), rs, H', ⟨Nat.le_refl _⟩, ⟨by first | exact Kd.z0l _ _ _ _ _ | exact Kd.z2l _ _ _ _ _ | exact Kd.z2w _ _ _ _ _ | exact Kd.z2o _ _ _ _ _ | exact Kd.z2u _ _ _ _ _⟩, ⟨bl HB⟩⟩
 case round =>
  clear H'
  obtain ⟨x3_1, x10_1, rfl, HA, HK1, HO_3, HB⟩ := hrel
  cases gk with
  | zero => exact absurd HA.out (by simp [z07.l0])
  | succ k1 =>
   have H := HA.out
   clear HA
   simp only [z07.l0] at H
   by_cases c2 : x10_1 < (l0.length : Int)
   focus
    rw [if_pos c2] at H
    have c2b0 := dT c2
    clear c2
    replace H := iD_ H
    obtain ⟨c3b0, H⟩ := H
    replace H := iD_ H
    obtain ⟨c4b0, H⟩ := H
    replace H := bS H
    obtain ⟨⟨t392, t393⟩, A50, H⟩ := H
    (try dsimp only at H)
    have A5 := aS A50
    clear A50
    replace H := iN_ H
    obtain ⟨c6, H⟩ := H
    have LMc6 := aS c6
    clear c6
    obtain ⟨y394, Ny394⟩ := yE (x3_1 ++ [t392] : List ByteArray)
    rw [← Ny394.out] at H
    have H' := aS H
    clear H
    obtain ⟨ad390, A390_1, c390_1, e390, hx390_0, hx390_1, hl390_1, hi390_1⟩ := z2b HR0.out x10_1 oa oa
    cases e390
    replace hx390_0 := xb HB hx390_0
    replace hx390_1 := xb HB hx390_1
    have HR390_1 := aS hi390_1
    have HC390_1 := aS hl390_1
    clear hi390_1 hl390_1
    have p390 : (0 ≤ (x10_1 : Int)) = True := tO
    have q390 : (x10_1 < (l0.length : Int)) = True := tO
   rotate_left 1
   focus
    rw [if_neg c2] at H
    have c2b0 := dF c2
    clear c2
    replace H := bA H
    obtain ⟨t397, A11, H⟩ := H
    replace H := iN_ H
    obtain ⟨c12, H⟩ := H
    have c12b0 := eq_true c12
    have c12b1 := dT c12
    try have c12b2 : (9223372036854775807 < 1 + t397.size) = False := eq_false (Nat.not_lt.2 c12)
    replace H := iN_ H
    obtain ⟨c13, H⟩ := H
    have c13b0 := eq_true c13
    have c13b1 := dT c13
    try have c13b2 : (9223372036854775807 < ((⟨#[40]⟩ : ByteArray) ++ t397).size + 1) = False := eq_false (Nat.not_lt.2 c13)
    have c13b3 : (9223372036854775807 < 1 + t397.size + 1) = False := eq_false (by have h_ := c13; simp only [ByteArray.size_append, show (⟨#[40]⟩ : ByteArray).size = 1 from rfl] at h_; omega)
    obtain rfl := sI H
    obtain ⟨Ao14, co14, eo14⟩ := Kd.zB HO_3.out
    subst eo14
   rotate_left 1
   all_goals (go_wp2_with (first | ((with_reducible refine zq (N := 5) rfl ?_); refine bx (N := 5) (cs := #[.int .i64 0, .slice none 0 0]) (t := 115) ?_; intro gb391 hg wq1 hbox hb; replace HO_3 := aS (Kd.zU (by exact rA HO_3.out) hb); have BK391 := aS (hbox); have GW391 := (gz hg HB : Aside0 (w.heap.size ≤ gb391)); have GE391 := (gz hg HB : Aside0 (w.heap.size ≤ gb391)); replace HB := hB_ HB hb; clear hb hbox hg; obtain ⟨_, _, _, _⟩ := cf2 BK391.out) | ((with_reducible refine zi (f := 104) rfl ?_); refine gl 16 Tryz.func104 #[.agg #[.int .i64 ((yg l0 x10_1).f0), .slice A390_1 ((yg l0 x10_1).f1).length c390_1]] ?_; (with_reducible refine (z01.calls k1 ((yg l0 x10_1).f0) _ _ ((yg l0 x10_1).f1) t392 t393 _ ?side1 ?side2 ?side3 A5.out).mono ?_); (case side1 => exact GW.below HG.out (bl HB)); (case side2 => exact Kd.zK HR390_1.out (bl HB)); (case side3 => exact HC390_1.out); rintro e wq2 ⟨rfl, hb⟩; refine ⟨_, rfl, ?_⟩; replace HO_3 := aS (Kd.zU (by exact (Kd.zw (rF (Kd.xh HO_3.out BK391.out (by decide))) (fun _ h_ => h_.1))) hb); replace BK391 := aS (zf (g := gb391) (o := .cells #[.int .i64 ((yg l0 x10_1).f0), .slice A390_1 ((yg l0 x10_1).f1).length c390_1] 115 (0, 0)) (bp BK391) hb); replace HB := hB_ HB hb; clear hb) | ((with_reducible refine yV (b := .append) (xs := #[.tmp 19, .tmp 21]) rfl ?_); at_builtin; refine Kd.z0C Kd.string (w0 := w) w.heap.size rfl (.tmp 19) (.tmp 21) 130 9 (.string ⟨#[]⟩) 16 rfl Tryz.underlying130 zdB rfl (by decide) (by omega) u3 x3_1 t392 [.string t392] (fun _ => True) (fun _ => False) rfl rfl ?aP (fun _ hk => hk.elim) ?aF ?aO ?aB ?aS ?aL ?_; (case aP => exact rfl); (case aB => exact (bl HB)); (case aF => exact (fun _ _ => trivial)); (case aO => exact (by exact rA HO_3.out)); (case aS => exact (zg (bl HB))); (case aL => have := LMc6.out; omega); intro v395 wq3 ho hb hg hat; rw [← Ny394.out] at ho; replace BK391 := aS (yX (bj BK391) hg (Kd.z3f HO_3.out BK391.out (by decide))); replace HB := aS (hb); have HO396 := aS (ho); clear HO_3; clear ho hb hg hat) | ((with_reducible refine zi (f := 105) rfl ?_); refine gl 25 Tryz.func105 #[.slice Ao14 x3_1.length co14, .string (⟨#[44, 32]⟩ : ByteArray)] ?_; (with_reducible refine (strings_Join.calls _ _ x3_1 (⟨#[44, 32]⟩ : ByteArray) t397 _ ?side1 ?side2 A11.out).mono ?_); (case side1 => exact cA ((Kd.zz HO_3.out).2.2)); (case side2 => exact (Kd.zz HO_3.out).2.1); rintro e wq1 ⟨rfl, hb⟩; refine ⟨_, rfl, ?_⟩; replace HO_3 := aS (Kd.zU (by exact rA HO_3.out) hb); replace HB := hB_ HB hb; clear hb)))
   ·go_roundg k1
    case measure => have := HK1.out; omega
    case rel => exact ⟨(y394), (wrap64 (x10_1 + 1)), rs, H', ⟨by have := HK1.out; omega⟩, ⟨by exact rA HO396.out⟩, ⟨bl HB⟩⟩
   ·go_ret
    exact ⟨re, bl HB⟩
end
end
def z2Q.f (_ : Int) (_ : Bool) (_ _ : List Int) : Option (ByteArray × Int) := none
theorem z2Q.calls (a0_0 : Int) (a0_1 : Bool) (A0_2 : Option Addr) (c0_2 : Nat) (l0_2 : List Int) (A0_3 : Option Addr) (c0_3 : Nat) (l0_3 : List Int) (r1 : ByteArray) (r2 : Int) (w : World) (_ : GW w) (_ : Kd.C (Kd.int .u32) w A0_2 l0_2.length l0_2) (_ : l0_2.length ≤ c0_2) (_ : Kd.C (Kd.int .u32) w A0_3 l0_3.length l0_3) (_ : l0_3.length ≤ c0_3) (h : z2Q.f a0_0 a0_1 l0_2 l0_3 = some (r1, r2)) :
 Calls Tryz.prog 107 #[.agg #[.int .i64 a0_0, .bool a0_1, .slice A0_2 l0_2.length c0_2, .slice A0_3 l0_3.length c0_3]] w fun e w' => e = .returned (.tuple #[.string r1, .int .i64 r2]) ∧ Below w.heap.size w w' := by cases h
section
section
attribute [local go_sem] yd zV Instr.index
attribute [local go_sem] xf xg xD xE yI yJ xl xm
def xq.l0 : Nat → ByteArray → Int → Int → Int → Int → Int → Int → Int → Int → Int → Bool → List Int → List Int → ByteArray → Int → Int → Int → Bool → Int → Int → Option (ByteArray)
 | 0, _, _, _, _, _, _, _, _, _, _, _, _, _, _, _, _, _, _, _, _ => none
 | k + 1, x5, x21, x660, x661, x662, x399000, x399001, x399002, x399003, x399004, x399005, x399006, x399007, x408000, x408001, x408002, x408003, x408004, x408005, x408006 => if x21 < 3 then (if x21 = (0 : Int) then (if x660 = 0 then (xq.l0 k x5 (0 + 1) x660 x661 x662 x399000 x399001 x399002 x399003 x399004 x399005 x399006 x399007 x408000 x408001 x408002 x408003 x408004 x408005 x408006) else ((z2z.f).bind fun tk398k413 => ((strconv_Itoa.f x399001).bind fun t414 => (if 1 + t414.size ≤ 9223372036854775807 then (if x5.size + ((⟨#[32]⟩ : ByteArray) ++ t414).size ≤ 9223372036854775807 then (xq.l0 k (x5 ++ ((⟨#[32]⟩ : ByteArray) ++ t414)) (0 + 1) x660 x661 x662 x399000 x399001 x399002 x399003 x399004 x399005 x399006 x399007 x408000 x408001 x408002 x408003 x408004 x408005 x408006) else (none)) else (none))))) else (if x21 = (1 : Int) then (if x661 = 0 then (xq.l0 k x5 (1 + 1) x660 x661 x662 x399000 x399001 x399002 x399003 x399004 x399005 x399006 x399007 x408000 x408001 x408002 x408003 x408004 x408005 x408006) else ((z2z.f).bind fun tk398k415 => ((strconv_Itoa.f x399002).bind fun t416 => (if 1 + t416.size ≤ 9223372036854775807 then (if x5.size + ((⟨#[32]⟩ : ByteArray) ++ t416).size ≤ 9223372036854775807 then (xq.l0 k (x5 ++ ((⟨#[32]⟩ : ByteArray) ++ t416)) (1 + 1) x660 x661 x662 x399000 x399001 x399002 x399003 x399004 x399005 x399006 x399007 x408000 x408001 x408002 x408003 x408004 x408005 x408006) else (none)) else (none))))) else (if x21 = (2 : Int) then (if x662 = 0 then (xq.l0 k x5 (2 + 1) x660 x661 x662 x399000 x399001 x399002 x399003 x399004 x399005 x399006 x399007 x408000 x408001 x408002 x408003 x408004 x408005 x408006) else ((z2z.f).bind fun tk398k417 => ((strconv_Itoa.f x399003).bind fun t418 => (if 1 + t418.size ≤ 9223372036854775807 then (if x5.size + ((⟨#[32]⟩ : ByteArray) ++ t418).size ≤ 9223372036854775807 then (xq.l0 k (x5 ++ ((⟨#[32]⟩ : ByteArray) ++ t418)) (2 + 1) x660 x661 x662 x399000 x399001 x399002 x399003 x399004 x399005 x399006 x399007 x408000 x408001 x408002 x408003 x408004 x408005 x408006) else (none)) else (none))))) else (none)))) else (if x408004 = true then ((z2Q.f x399004 x399005 x399006 x399007).bind fun bt411 => (if 1 + bt411.1.size ≤ 9223372036854775807 then (if x5.size + ((⟨#[32]⟩ : ByteArray) ++ bt411.1).size ≤ 9223372036854775807 then (if (x5 ++ ((⟨#[32]⟩ : ByteArray) ++ bt411.1)).size + 1 ≤ 9223372036854775807 then (some ((x5 ++ ((⟨#[32]⟩ : ByteArray) ++ bt411.1)) ++ (⟨#[10]⟩ : ByteArray))) else (none)) else (none)) else (none))) else (if x5.size + 1 ≤ 9223372036854775807 then (some (x5 ++ (⟨#[10]⟩ : ByteArray))) else (none)))
def xq.f (k : Nat) (a0_0 : Int) (a0_1 : Int) (a0_2 : Int) (a0_3 : Int) (a0_4 : Int) (a0_5 : Bool) (l0_6 : List Int) (l0_7 : List Int) : Option (ByteArray) := (xP.f a0_0).bind fun bt399 => (if 2 + bt399.1.size ≤ 9223372036854775807 then ((z1T.f bt399.1 bt399.2.1 bt399.2.2.1 bt399.2.2.2.1 bt399.2.2.2.2.1 bt399.2.2.2.2.2.1 bt399.2.2.2.2.2.2.1).bind fun bt408 => (xq.l0 k ((⟨#[32, 32]⟩ : ByteArray) ++ bt399.1) 0 bt408.1 bt408.2.1 bt408.2.2 a0_0 a0_1 a0_2 a0_3 a0_4 a0_5 l0_6 l0_7 bt399.1 bt399.2.1 bt399.2.2.1 bt399.2.2.2.1 bt399.2.2.2.2.1 bt399.2.2.2.2.2.1 bt399.2.2.2.2.2.2.1)) else (none))
theorem xq.calls (k : Nat) (a0_0 : Int) (a0_1 : Int) (a0_2 : Int) (a0_3 : Int) (a0_4 : Int) (a0_5 : Bool) (A0_6 : Option Addr) (c0_6 : Nat) (l0_6 : List Int) (A0_7 : Option Addr) (c0_7 : Nat) (l0_7 : List Int) (r : ByteArray) (w : World) (hG : GW w) (hr0_6 : Kd.C (Kd.int .u32) w A0_6 l0_6.length l0_6) (hc0_6 : l0_6.length ≤ c0_6) (hr0_7 : Kd.C (Kd.int .u32) w A0_7 l0_7.length l0_7) (hc0_7 : l0_7.length ≤ c0_7) (h : xq.f k a0_0 a0_1 a0_2 a0_3 a0_4 a0_5 l0_6 l0_7 = some r) :
 Calls Tryz.prog 49 #[.agg #[.int .i64 a0_0, .int .i64 a0_1, .int .i64 a0_2, .int .i64 a0_3, .int .i64 a0_4, .bool a0_5, .slice A0_6 l0_6.length c0_6, .slice A0_7 l0_7.length c0_7]] w fun e w' => e = .returned (.string r) ∧ Below w.heap.size w w' := by
 have hu63 := Tryz.underlying63
 have hu72 := Tryz.underlying72
 have hu61 := Tryz.underlying61
 have HR0_6 := aS hr0_6
 have HC0_6 := aS hc0_6
 clear hr0_6 hc0_6
 have HR0_7 := aS hr0_7
 have HC0_7 := aS hc0_7
 clear hr0_7 hc0_7
 have HG := aS hG
 clear hG
 have HB := hR w
 have H := h
 unfold xq.f at H
 clear h
 replace H := bS H
 obtain ⟨⟨t399, t400, t401, t402, t403, t404, t405, t406⟩, A20, H⟩ := H
 (try dsimp only at H)
 have A2 := aS A20
 clear A20
 replace H := iN_ H
 obtain ⟨c3, H⟩ := H
 have c3b0 := eq_true c3
 have c3b1 := dT c3
 try have c3b2 : (9223372036854775807 < 2 + t399.size) = False := eq_false (Nat.not_lt.2 c3)
 replace H := bS H
 obtain ⟨⟨t408, t409, t410⟩, A40, H⟩ := H
 (try dsimp only at H)
 have A4 := aS A40
 clear A40
 have H' := aS H
 clear H
 have hu70 := Tryz.underlying70; have hu75 := Tryz.underlying75; have hu77 := Tryz.underlying77; have hu78 := Tryz.underlying78
 go_enter Tryz.func49, Tryz.ntmps49
 go_wp2_with (first | ((with_reducible refine zq (N := 1) rfl ?_); refine bx (N := 1) (cs := #[.int .i64 a0_0, .int .i64 a0_1, .int .i64 a0_2, .int .i64 a0_3, .int .i64 a0_4, .bool a0_5, .slice A0_6 l0_6.length c0_6, .slice A0_7 l0_7.length c0_7]) (t := 63) ?_; intro gb398 hg w5 hbox hb; have BK398 := aS (hbox); have GW398 := (gz hg HB : Aside0 (w.heap.size ≤ gb398)); have GE398 := (gz hg HB : Aside0 (w.heap.size ≤ gb398)); replace HB := hB_ HB hb; clear hb hbox hg; obtain ⟨_, _, _, _, _, _, _, _, _, _, _, _, _, _, _, _⟩ := cf8 BK398.out) | ((with_reducible refine zi (f := 41) rfl ?_); refine gl 13 Tryz.func41 #[.int .i64 a0_0] ?_; (with_reducible refine (xP.calls a0_0 t399 t400 t401 t402 t403 t404 t405 t406 _ ?side1 A2.out).mono ?_); (case side1 => exact GW.below HG.out (bl HB)); rintro e w7 ⟨rfl, hb⟩; refine ⟨_, rfl, ?_⟩; replace BK398 := bb BK398 hb; replace HB := hB_ HB hb; clear hb) | ((with_reducible refine zq (N := 3) rfl ?_); refine bx (N := 3) (cs := #[.string (⟨#[]⟩ : ByteArray), .int .i64 0, .int .i64 0, .int .i64 0, .bool false, .int .i64 0, .int .i64 0]) (t := 72) ?_; intro gb407 hg w8 hbox hb; have n0_ := aS (zf (bj BK398) hb); have n1_ := aS (bs_ (bl HB) hb); have n2_ := aS (hbox); have n3_ := (gz hg HB : Aside0 (w.heap.size ≤ gb407)); have n4_ := (gz hg HB : Aside0 (w.heap.size ≤ gb407)); have n5_ := aS ((by rw [hg]; exact Nat.ne_of_lt (yR (bj BK398)) : gb398 ≠ gb407)); have n6_ := aS ((by rw [hg]; exact Nat.ne_of_gt (yR (bj BK398)) : gb407 ≠ gb398)); clear BK398; clear HB; have BK398 := n0_; have HB := n1_; have BK407 := n2_; have GW407 := n3_; have GE407 := n4_; have NB398_407 := n5_; have NB407_398 := n6_; clear n0_ n1_ n2_ n3_ n4_ n5_ n6_; clear hb hbox hg; have hnb9 := NB407_398.out; have hnc9 := NB398_407.out; obtain ⟨_, _, _, _, _, _, _, _, _, _, _, _, _, _⟩ := cf7 BK407.out) | ((with_reducible refine zi (f := 42) rfl ?_); refine gl 20 Tryz.func42 #[.agg #[.string t399, .int .i64 t400, .int .i64 t401, .int .i64 t402, .bool t403, .int .i64 t404, .int .i64 t405]] ?_; (with_reducible refine (z1T.calls t399 t400 t401 t402 t403 t404 t405 t408 t409 t410 _ A4.out).mono ?_); rintro e w11 ⟨rfl, hb⟩; refine ⟨_, rfl, ?_⟩; replace BK398 := bb BK398 hb; replace BK407 := aS (zf (g := gb407) (o := .cells #[.string t399, .int .i64 t400, .int .i64 t401, .int .i64 t402, .bool t403, .int .i64 t404, .int .i64 t405] 72 (0, 0)) (bp BK407) hb); replace HB := hB_ HB hb; clear hb))
 go_loopg [5, 21] k (fun kq v5 v21 w' => ∃ (x5_1 : ByteArray) (x21_1 : Int) (x399000_1 : Int) (x399001_1 : Int) (x399002_1 : Int) (x399003_1 : Int) (x399004_1 : Int) (x399005_1 : Bool), v5 = .string x5_1 ∧ v21 = .int .i64 x21_1 ∧ Aside0 (xq.l0 kq x5_1 x21_1 t408 t409 t410 x399000_1 x399001_1 x399002_1 x399003_1 x399004_1 x399005_1 l0_6 l0_7 t399 t400 t401 t402 t403 t404 t405 = some r) ∧ Aside0 (kq ≤ k) ∧ Aside0 (w'.heap[gb398]? = some (.cells #[.int .i64 x399000_1, .int .i64 x399001_1, .int .i64 x399002_1, .int .i64 x399003_1, .int .i64 x399004_1, .bool x399005_1, (.slice A0_6 l0_6.length c0_6), (.slice A0_7 l0_7.length c0_7)] 63 (0, 0))) ∧ Aside0 (w'.heap[gb407]? = some (.cells #[.string t399, .int .i64 t400, .int .i64 t401, .int .i64 t402, .bool t403, .int .i64 t404, .int .i64 t405] 72 (0, 0))) ∧ Aside0 (Below w.heap.size w w'))
 case atStart => exact ⟨((⟨#[32, 32]⟩ : ByteArray) ++ t399), (0), (a0_0), (a0_1), (a0_2), (a0_3), (a0_4), (a0_5), rs, rs, H', ⟨Nat.le_refl _⟩, ⟨bk BK398⟩, ⟨bk BK407⟩, ⟨bl HB⟩⟩
 case round =>
  clear H'
  obtain ⟨x5_1, x21_1, x399000_1, x399001_1, x399002_1, x399003_1, x399004_1, x399005_1, rfl, rfl, HA, HK1, BK398, BK407, HB⟩ := hrel
  cases gk with
  | zero => exact absurd HA.out (by simp [xq.l0])
  | succ k1 =>
   have H := HA.out
   clear HA
   simp only [xq.l0] at H
   by_cases c12 : x21_1 < 3
   focus
    rw [if_pos c12] at H
    have c12b0 := dT c12
    clear c12
    by_cases c13 : x21_1 = (0 : Int)
    focus
     rw [if_pos c13] at H
     subst c13
     by_cases c14 : t408 = 0
     focus
      rw [if_pos c14] at H
      have c14b0 := bT c14
      have c14b1 := nF c14
      clear c14
      have H' := aS H
      clear H
      go_wp2
      go_roundg k1
      case measure => have := HK1.out; omega
      case rel => exact ⟨(x5_1), (0 + 1), (x399000_1), (x399001_1), (x399002_1), (x399003_1), (x399004_1), (x399005_1), rs, rs, H', ⟨by have := HK1.out; omega⟩, ⟨bk BK398⟩, ⟨bk BK407⟩, ⟨bl HB⟩⟩
     focus
      rw [if_neg c14] at H
      have c14b0 := bF c14
      have c14b1 := nT c14
      replace H := bA H
      obtain ⟨tk398k413, A15, H⟩ := H
      (try dsimp only at H)
      replace H := bA H
      obtain ⟨t414, A16, H⟩ := H
      replace H := iN_ H
      obtain ⟨c17, H⟩ := H
      have c17b0 := eq_true c17
      have c17b1 := dT c17
      try have c17b2 : (9223372036854775807 < 1 + t414.size) = False := eq_false (Nat.not_lt.2 c17)
      replace H := iN_ H
      obtain ⟨c18, H⟩ := H
      have c18b0 := eq_true c18
      have c18b1 := dT c18
      try have c18b2 : (9223372036854775807 < x5_1.size + ((⟨#[32]⟩ : ByteArray) ++ t414).size) = False := eq_false (Nat.not_lt.2 c18)
      have c18b3 : (9223372036854775807 < x5_1.size + (1 + t414.size)) = False := eq_false (by have h_ := c18; simp only [ByteArray.size_append, show (⟨#[32]⟩ : ByteArray).size = 1 from rfl] at h_; omega)
      have H' := aS H
      clear H
    rotate_left 1
    focus
     rw [if_neg c13] at H
     have c13b0 := bF c13
     have c13b1 := nT c13
     by_cases c22 : x21_1 = (1 : Int)
     focus
      rw [if_pos c22] at H
      subst c22
      by_cases c23 : t409 = 0
      focus
       rw [if_pos c23] at H
       have c23b0 := bT c23
       have c23b1 := nF c23
       clear c23
       have H' := aS H
       clear H
       go_wp2
       go_roundg k1
       case measure => have := HK1.out; omega
       case rel => exact ⟨(x5_1), (1 + 1), (x399000_1), (x399001_1), (x399002_1), (x399003_1), (x399004_1), (x399005_1), rs, rs, H', ⟨by have := HK1.out; omega⟩, ⟨bk BK398⟩, ⟨bk BK407⟩, ⟨bl HB⟩⟩
      focus
       rw [if_neg c23] at H
       have c23b0 := bF c23
       have c23b1 := nT c23
       replace H := bA H
       obtain ⟨tk398k415, A24, H⟩ := H
       (try dsimp only at H)
       replace H := bA H
       obtain ⟨t416, A25, H⟩ := H
       replace H := iN_ H
       obtain ⟨c26, H⟩ := H
       have c26b0 := eq_true c26
       have c26b1 := dT c26
       try have c26b2 : (9223372036854775807 < 1 + t416.size) = False := eq_false (Nat.not_lt.2 c26)
       replace H := iN_ H
       obtain ⟨c27, H⟩ := H
       have c27b0 := eq_true c27
       have c27b1 := dT c27
       try have c27b2 : (9223372036854775807 < x5_1.size + ((⟨#[32]⟩ : ByteArray) ++ t416).size) = False := eq_false (Nat.not_lt.2 c27)
       have c27b3 : (9223372036854775807 < x5_1.size + (1 + t416.size)) = False := eq_false (by have h_ := c27; simp only [ByteArray.size_append, show (⟨#[32]⟩ : ByteArray).size = 1 from rfl] at h_; omega)
       have H' := aS H
       clear H
     rotate_left 1
     focus
      rw [if_neg c22] at H
      have c22b0 := bF c22
      have c22b1 := nT c22
      replace H := iN_ H
      obtain ⟨c31, H⟩ := H
      subst c31
      by_cases c32 : t410 = 0
      focus
       rw [if_pos c32] at H
       have c32b0 := bT c32
       have c32b1 := nF c32
       clear c32
       have H' := aS H
       clear H
       go_wp2
       go_roundg k1
       case measure => have := HK1.out; omega
       case rel => exact ⟨(x5_1), (2 + 1), (x399000_1), (x399001_1), (x399002_1), (x399003_1), (x399004_1), (x399005_1), rs, rs, H', ⟨by have := HK1.out; omega⟩, ⟨bk BK398⟩, ⟨bk BK407⟩, ⟨bl HB⟩⟩
      focus
       rw [if_neg c32] at H
       have c32b0 := bF c32
       have c32b1 := nT c32
       replace H := bA H
       obtain ⟨tk398k417, A33, H⟩ := H
       (try dsimp only at H)
       replace H := bA H
       obtain ⟨t418, A34, H⟩ := H
       replace H := iN_ H
       obtain ⟨c35, H⟩ := H
       have c35b0 := eq_true c35
       have c35b1 := dT c35
       try have c35b2 : (9223372036854775807 < 1 + t418.size) = False := eq_false (Nat.not_lt.2 c35)
       replace H := iN_ H
       obtain ⟨c36, H⟩ := H
       have c36b0 := eq_true c36
       have c36b1 := dT c36
       try have c36b2 : (9223372036854775807 < x5_1.size + ((⟨#[32]⟩ : ByteArray) ++ t418).size) = False := eq_false (Nat.not_lt.2 c36)
       have c36b3 : (9223372036854775807 < x5_1.size + (1 + t418.size)) = False := eq_false (by have h_ := c36; simp only [ByteArray.size_append, show (⟨#[32]⟩ : ByteArray).size = 1 from rfl] at h_; omega)
       have H' := aS H
       clear H
     rotate_left 1
    rotate_left 2
   rotate_left 3
   focus
    rw [if_neg c12] at H
    have c12b0 := dF c12
    clear c12
    by_cases c40 : t403 = true
    focus
     subst c40
     rw [if_pos rfl] at H
     replace H := bS H
     obtain ⟨⟨t411, t412⟩, A410, H⟩ := H
     (try dsimp only at H)
     have A41 := aS A410
     clear A410
     replace H := iN_ H
     obtain ⟨c42, H⟩ := H
     have c42b0 := eq_true c42
     have c42b1 := dT c42
     try have c42b2 : (9223372036854775807 < 1 + t411.size) = False := eq_false (Nat.not_lt.2 c42)
     replace H := iN_ H
     obtain ⟨c43, H⟩ := H
     have c43b0 := eq_true c43
     have c43b1 := dT c43
     try have c43b2 : (9223372036854775807 < x5_1.size + ((⟨#[32]⟩ : ByteArray) ++ t411).size) = False := eq_false (Nat.not_lt.2 c43)
     have c43b3 : (9223372036854775807 < x5_1.size + (1 + t411.size)) = False := eq_false (by have h_ := c43; simp only [ByteArray.size_append, show (⟨#[32]⟩ : ByteArray).size = 1 from rfl] at h_; omega)
     replace H := iN_ H
     obtain ⟨c44, H⟩ := H
     have c44b0 := eq_true c44
     have c44b1 := dT c44
     try have c44b2 : (9223372036854775807 < (x5_1 ++ ((⟨#[32]⟩ : ByteArray) ++ t411)).size + 1) = False := eq_false (Nat.not_lt.2 c44)
     have c44b3 : (9223372036854775807 < x5_1.size + (1 + t411.size) + 1) = False := eq_false (by have h_ := c44; simp only [ByteArray.size_append, show (⟨#[32]⟩ : ByteArray).size = 1 from rfl] at h_; omega)
     obtain rfl := sI H
     have hnb45 := NB407_398.out
     have hnc45 := NB398_407.out
     obtain ⟨_, _, _, _, _, _, _, _, _, _, _, _, _, _⟩ := cf7 BK407.out
     obtain ⟨_, _, _, _, _, _, _, _, _, _, _, _, _, _, _, _⟩ := cf8 BK398.out
    rotate_left 1
    focus
     replace c40 := Bool.eq_false_iff.mpr c40
     subst c40
     rw [if_neg iN] at H
     by_cases c49 : x5_1.size + 1 ≤ 9223372036854775807
     focus
      rw [if_pos c49] at H
      have c49b0 := eq_true c49
      have c49b1 := dT c49
      try have c49b2 : (9223372036854775807 < x5_1.size + 1) = False := eq_false (Nat.not_lt.2 c49)
      obtain rfl := sI H
      have hnb50 := NB407_398.out
      have hnc50 := NB398_407.out
      obtain ⟨_, _, _, _, _, _, _, _, _, _, _, _, _, _⟩ := cf7 BK407.out
      go_wp2
      go_ret
      exact ⟨re, bl HB⟩
     focus
      rw [if_neg c49] at H
      cases H
   rotate_left 1
   all_goals (go_wp2_with (first | (go_at_call 43; (with_reducible refine (yi gb398 _).mono ?_); rintro e wq1 ⟨rfl, hb⟩; replace BK398 := bb BK398 hb; replace BK407 := bb BK407 hb; replace HB := hB_ HB hb; clear hb; have hnb20 := NB398_407.out; have hnc20 := NB407_398.out; obtain ⟨_, _, _, _, _, _, _, _, _, _, _, _, _, _, _, _⟩ := cf8 BK398.out) | ((with_reducible refine zi (f := 48) rfl ?_); refine gl 33 Tryz.func48 #[.int .i64 x399001_1] ?_; (with_reducible refine (strconv_Itoa.calls x399001_1 t414 _ A16.out).mono ?_); rintro e w' ⟨rfl, ⟨nd, rfl⟩⟩; refine ⟨_, rfl, ?_⟩) | (go_at_call 43; (with_reducible refine (yi gb398 _).mono ?_); rintro e wq1 ⟨rfl, hb⟩; replace BK398 := bb BK398 hb; replace BK407 := bb BK407 hb; replace HB := hB_ HB hb; clear hb; have hnb29 := NB398_407.out; have hnc29 := NB407_398.out; obtain ⟨_, _, _, _, _, _, _, _, _, _, _, _, _, _, _, _⟩ := cf8 BK398.out) | ((with_reducible refine zi (f := 48) rfl ?_); refine gl 33 Tryz.func48 #[.int .i64 x399002_1] ?_; (with_reducible refine (strconv_Itoa.calls x399002_1 t416 _ A25.out).mono ?_); rintro e w' ⟨rfl, ⟨nd, rfl⟩⟩; refine ⟨_, rfl, ?_⟩) | (go_at_call 43; (with_reducible refine (yi gb398 _).mono ?_); rintro e wq1 ⟨rfl, hb⟩; replace BK398 := bb BK398 hb; replace BK407 := bb BK407 hb; replace HB := hB_ HB hb; clear hb; have hnb38 := NB398_407.out; have hnc38 := NB407_398.out; obtain ⟨_, _, _, _, _, _, _, _, _, _, _, _, _, _, _, _⟩ := cf8 BK398.out) | ((with_reducible refine zi (f := 48) rfl ?_); refine gl 33 Tryz.func48 #[.int .i64 x399003_1] ?_; (with_reducible refine (strconv_Itoa.calls x399003_1 t418 _ A34.out).mono ?_); rintro e w' ⟨rfl, ⟨nd, rfl⟩⟩; refine ⟨_, rfl, ?_⟩) | ((with_reducible refine zi (f := 107) rfl ?_); refine gl 42 Tryz.func107 #[.agg #[.int .i64 x399004_1, .bool x399005_1, .slice A0_6 l0_6.length c0_6, .slice A0_7 l0_7.length c0_7]] ?_; (with_reducible refine (z2Q.calls x399004_1 x399005_1 _ _ l0_6 _ _ l0_7 t411 t412 _ ?side1 ?side2 ?side3 ?side4 ?side5 A41.out).mono ?_); (case side1 => exact GW.below HG.out (bl HB)); (case side2 => exact cb HR0_6 HB); (case side3 => exact HC0_6.out); (case side4 => exact cb HR0_7 HB); (case side5 => exact HC0_7.out); rintro e wq1 ⟨rfl, hb⟩; refine ⟨_, rfl, ?_⟩; replace BK398 := bb BK398 hb; replace BK407 := bb BK407 hb; replace HB := hB_ HB hb; clear hb)))
   ·go_roundg k1
    case measure => have := HK1.out; omega
    case rel => exact ⟨(x5_1 ++ ((⟨#[32]⟩ : ByteArray) ++ t414)), (0 + 1), (x399000_1), (x399001_1), (x399002_1), (x399003_1), (x399004_1), (x399005_1), rs, rs, H', ⟨by have := HK1.out; omega⟩, ⟨bk BK398⟩, ⟨bk BK407⟩, ⟨bl HB⟩⟩
   ·go_roundg k1
    case measure => have := HK1.out; omega
    case rel => exact ⟨(x5_1 ++ ((⟨#[32]⟩ : ByteArray) ++ t416)), (1 + 1), (x399000_1), (x399001_1), (x399002_1), (x399003_1), (x399004_1), (x399005_1), rs, rs, H', ⟨by have := HK1.out; omega⟩, ⟨bk BK398⟩, ⟨bk BK407⟩, ⟨bl HB⟩⟩
   ·go_roundg k1
    case measure => have := HK1.out; omega
    case rel => exact ⟨(x5_1 ++ ((⟨#[32]⟩ : ByteArray) ++ t418)), (2 + 1), (x399000_1), (x399001_1), (x399002_1), (x399003_1), (x399004_1), (x399005_1), rs, rs, H', ⟨by have := HK1.out; omega⟩, ⟨bk BK398⟩, ⟨bk BK407⟩, ⟨bl HB⟩⟩
   ·go_ret
    exact ⟨re, bl HB⟩
end
end
end Go.Proofs.QP

