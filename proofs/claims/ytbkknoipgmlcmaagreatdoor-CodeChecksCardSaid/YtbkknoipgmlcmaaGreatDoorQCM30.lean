import Derived.Shelf.Strings.BuilderX
import Derived.Lib.Strings
import Derived.Lib.Slices
import Derived.Lib.Walk
import Derived.Lib.Builder
import Derived.Lib.AppendStr
import Derived.Shelf.Strings.BuilderK
import Derived.Lib.UnsafeStr
import Derived.Lib.MakeNoZero
import Derived.WalkKit
import Derived.KernelRfl
import Derived.Laws.Externs
import Derived.Laws.IdiomCopy
import Derived.Laws.BitsLemmas
import Derived.Test.YtbkknoipgmlcmaaGreatDoorQCM29
import Derived.Test.YtbkknoipgmlcmaaGreatDoorQCM28
set_option linter.unusedVariables false
set_option linter.unusedSimpArgs false
set_option maxHeartbeats 8000000
set_option maxRecDepth 100000
namespace Go.Proofs.YtbkknoipgmlcmaaGreatDoor.P
open Go.RowKit Go.Proofs.YtbkknoipgmlcmaaGreatDoorW.PrintWords Go.Proofs.YtbkknoipgmlcmaaGreatDoorW.PrintLast Go.Proofs.YtbkknoipgmlcmaaGreatDoorW.PrintMore
open Go.Proofs.FX
attribute [local go_sem] cell_twice le_add_cast
attribute [local go_sem] max2_int min2_int max_two min_two max_three min_three max_four min_four
mutual
def fluxionref29_Check.j0 : Nat → List (S50) → Bool → Option (Int × Int × Int)
 | 0, _, _ => none
 | k + 1, x0, x16 => if x16 = true then (some (0, 0, 3)) else (fluxionref29_Check.l0 k x0 0)
def fluxionref29_Check.l0 : Nat → List (S50) → Int → Option (Int × Int × Int)
 | 0, _, _ => none
 | k + 1, x0, x5 => if x5 < (x0.length : Int) then ((ref_headed.f x0 x5).bind fun t346 => (if t346 = 0 then (if 0 ≤ x5 then (fluxionref29_Check.l1 k x0 x5 ((rd_T50 x0 x5).f4) 0) else (none)) else (some (x5, 0, t346)))) else (some (0, 0, 0))
def fluxionref29_Check.l1 : Nat → List (S50) → Int → List (S63) → Int → Option (Int × Int × Int)
 | 0, _, _, _, _ => none
 | k + 1, x0, x5, x7, x8 => if x8 < (x7.length : Int) then (if 0 ≤ x8 then ((fluxionref29_Formed.f k ((rd_T63 x7 x8).f0) ((rd_T63 x7 x8).f1) ((rd_T63 x7 x8).f2) ((rd_T63 x7 x8).f3) ((rd_T63 x7 x8).f4.f0) ((rd_T63 x7 x8).f4.f1) ((rd_T63 x7 x8).f4.f2) ((rd_T63 x7 x8).f4.f3)).bind fun t349 => (if t349 = true then ((ref_known.f x0 x5 ((rd_T63 x7 x8).f0) ((rd_T63 x7 x8).f1) ((rd_T63 x7 x8).f2) ((rd_T63 x7 x8).f3) ((rd_T63 x7 x8).f4.f0) ((rd_T63 x7 x8).f4.f1) ((rd_T63 x7 x8).f4.f2) ((rd_T63 x7 x8).f4.f3)).bind fun t351 => (if t351 = true then (if x8 = (wrap64 ((x7.length : Int) - 1)) then (if ((rd_T63 x7 x8).f0) = 20 then (fluxionref29_Check.l1 k x0 x5 x7 (wrap64 (x8 + 1))) else (if ((rd_T63 x7 x8).f0) = 26 then (fluxionref29_Check.l1 k x0 x5 x7 (wrap64 (x8 + 1))) else (some (x5, x8, 10)))) else (fluxionref29_Check.l1 k x0 x5 x7 (wrap64 (x8 + 1)))) else (some (x5, x8, 2)))) else (some (x5, x8, 5)))) else (none)) else (fluxionref29_Check.l0 k x0 (wrap64 (x5 + 1)))
end
def fluxionref29_Check.f (k : Nat) (l0 : List (S50)) : Option (Int × Int × Int) := if (l0.length : Int) < 1 then (fluxionref29_Check.j0 k l0 true) else (fluxionref29_Check.j0 k l0 (decide ((l0.length : Int) > 32)))
theorem fluxionref29_Check.calls (k : Nat) (A0 : Option Addr) (c0 : Nat) (l0 : List (S50)) (r1 : Int) (r2 : Int) (r3 : Int) (w : World) (hr0 : Kd.C k50 w A0 l0.length l0) (hc0 : l0.length ≤ c0) (h : fluxionref29_Check.f k l0 = some (r1, r2, r3)) :
 Calls Tryz.prog 14 #[.slice A0 l0.length c0] w fun e w' => e = .returned (.tuple #[.int .i64 r1, .int .i64 r2, .int .i64 r3]) ∧ Below w.heap.size w w' := by
 have hu63 := Tryz.underlying63
 have HR0 := aS hr0
 have HC0 := aS hc0
 clear hr0 hc0
 have HB := aS (Below.refl w.heap.size w)
 have H := h
 unfold fluxionref29_Check.f at H
 clear h
 have HC2 := aS H
 clear H
 go_enter Tryz.func14, Tryz.ntmps14
 go_upto_region 1 with (fail)
 go_cut [16] (fun v16 wc => ∃ (kq : Nat) (x16_1 : Bool), v16 = .bool x16_1 ∧ Aside0 (fluxionref29_Check.j0 kq l0 x16_1 = some (r1, r2, r3)) ∧ Aside0 (kq ≤ k) ∧ Aside0 (Below w.heap.size w wc))
 case first =>
  have H := HC2.out
  clear HC2
  by_cases c3 : (l0.length : Int) < 1
  ·rw [if_pos c3] at H
   have c3b0 := dT c3
   have c3b1 : decide (l0.length < 1) = true := dT (by omega)
   clear c3
   (first | rw [c3b0] | (simp only [i64_w, i32_w]; rw [c3b0]) | skip)
   have H' := aS H
   clear H
   go_wp2
   go_meet
   case rel => exact ⟨_, (true), rs, H', ⟨by first | omega | exact Nat.le_refl _⟩, ⟨bl HB⟩⟩
  ·rw [if_neg c3] at H
   have c3b0 := dF c3
   have c3b1 : decide (l0.length < 1) = false := dF (by omega)
   clear c3
   (first | rw [c3b0] | (simp only [i64_w, i32_w]; rw [c3b0]) | skip)
   have H' := aS H
   clear H
   go_wp2
   go_meet
   case rel => exact ⟨_, (decide ((l0.length : Int) > 32)), rs, H', ⟨by first | omega | exact Nat.le_refl _⟩, ⟨bl HB⟩⟩
 case rest =>
  clear HC2
  (try clear c1); (try clear p2); (try clear c3); (try clear c3b0); (try clear c3b1)
  obtain ⟨kq, x16_1, rfl, HA, HJ1, HB⟩ := hcut
  cases kq with
  | zero => exact absurd HA.out (by simp [fluxionref29_Check.j0])
  | succ kj1 =>
   have H := HA.out
   clear HA
   simp only [fluxionref29_Check.j0] at H
   by_cases c4 : x16_1 = true
   ·subst c4
    rw [if_pos rfl] at H
    simp only [Option.some.injEq, Prod.mk.injEq] at H
    obtain ⟨rfl, rfl, rfl⟩ := H
    go_wp2
    go_ret3
    exact ⟨re, bl HB⟩
   replace c4 := Bool.eq_false_iff.mpr c4
   subst c4
   rw [if_neg iN] at H
   have H' := aS H
   clear H
   go_wp2
   go_loopg [5] kj1 (fun kq v5 w' => ∃ (x5_2 : Int), v5 = .int .i64 x5_2 ∧ Aside0 (fluxionref29_Check.l0 kq l0 x5_2 = some (r1, r2, r3)) ∧ Aside0 (kq ≤ kj1) ∧ Aside0 (Below w.heap.size w w'))
   case atStart => exact ⟨(0), rs, H', ⟨Nat.le_refl _⟩, ⟨bl HB⟩⟩
   case round =>
    clear H'
    (try clear c1); (try clear p2); (try clear c3); (try clear c3b0); (try clear c3b1); (try clear c4); (try clear p2)
    obtain ⟨x5_2, rfl, HA, HK2, HB⟩ := hrel
    cases gk with
    | zero => exact absurd HA.out (by simp [fluxionref29_Check.l0])
    | succ k2 =>
     have H := HA.out
     clear HA
     simp only [fluxionref29_Check.l0] at H
     by_cases c5 : x5_2 < (l0.length : Int); rotate_left
     ·rw [if_neg c5] at H
      have c5b0 := dF c5
      clear c5
      simp only [Option.some.injEq, Prod.mk.injEq] at H
      obtain ⟨rfl, rfl, rfl⟩ := H
      go_wp2
      go_ret3
      exact ⟨re, bl HB⟩
     rw [if_pos c5] at H
     have c5b0 := dT c5
     clear c5
     replace H := bS H
     obtain ⟨t346, A60, H⟩ := H
     (try dsimp only at H)
     have A6 := aS A60
     clear A60
     by_cases c7 : t346 = 0; rotate_left
     ·rw [if_neg c7] at H
      have c7b0 := bF c7
      have c7b1 := nT c7
      simp only [Option.some.injEq, Prod.mk.injEq] at H
      obtain ⟨rfl, rfl, rfl⟩ := H
      go_wp2_with (first | ((with_reducible refine gate_callee (f := 33) rfl ?_); refine gl 25 Tryz.func33 #[.slice A0 l0.length c0, .int .i64 x5_2] ?_; (with_reducible refine (ref_headed.calls _ _ l0 x5_2 t346 _ ?side1 ?side2 A6.out).mono ?_); (case side1 => exact cb HR0 HB); (case side2 => exact HC0.out); rintro e w30 ⟨rfl, hb⟩; refine ⟨_, rfl, ?_⟩; replace HB := aS (bs_ (bl HB) hb); clear hb))
      go_ret3
      exact ⟨re, bl HB⟩
     rw [if_pos c7] at H
     have c7b0 := bT c7
     have c7b1 := nF c7
     clear c7
     by_cases c8 : 0 ≤ x5_2; rotate_left
     ·rw [if_neg c8] at H
      cases H
     rw [if_pos c8] at H
     have c8b0 := dT c8
     clear c8
     have H' := aS H
     clear H
     go_wp2_with (first | ((with_reducible refine gate_callee (f := 33) rfl ?_); refine gl 25 Tryz.func33 #[.slice A0 l0.length c0, .int .i64 x5_2] ?_; (with_reducible refine (ref_headed.calls _ _ l0 x5_2 t346 _ ?side1 ?side2 A6.out).mono ?_); (case side1 => exact cb HR0 HB); (case side2 => exact HC0.out); rintro e w9 ⟨rfl, hb⟩; refine ⟨_, rfl, ?_⟩; replace HB := aS (bs_ (bl HB) hb); clear hb; have p347 : 0 ≤ (x5_2 : Int) := oa; have q347 : x5_2 < (l0.length : Int) := oa; obtain ⟨ad347, A347_1, c347_1, A347_2, c347_2, A347_4, c347_4, e347, hx347_0, hx347_1, hx347_2, hx347_3, hx347_4, hl347_1, hi347_1, hl347_2, hi347_2, hl347_4, hi347_4⟩ := at_T50 HR0.out x5_2 p347 q347; cases e347; replace hx347_0 := xb HB hx347_0; replace hx347_1 := xb HB hx347_1; replace hx347_2 := xb HB hx347_2; replace hx347_3 := xb HB hx347_3; replace hx347_4 := xb HB hx347_4; have HR347_1 := aS hi347_1; have HC347_1 := aS hl347_1; clear hi347_1 hl347_1; have HR347_2 := aS hi347_2; have HC347_2 := aS hl347_2; clear hi347_2 hl347_2; have HR347_4 := aS hi347_4; have HC347_4 := aS hl347_4; clear hi347_4 hl347_4; replace p347 := eq_true p347; replace q347 := eq_true q347))
     go_loopg [8] k2 (fun kq v8 w' => ∃ (x8_3 : Int), v8 = .int .i64 x8_3 ∧ Aside0 (fluxionref29_Check.l1 kq l0 x5_2 ((rd_T50 l0 x5_2).f4) x8_3 = some (r1, r2, r3)) ∧ Aside0 (kq ≤ k2) ∧ Aside0 (Below w.heap.size w w'))
     case atStart => exact ⟨(0), rs, H', ⟨Nat.le_refl _⟩, ⟨bl HB⟩⟩
     case round =>
      clear H'
      (try clear c1); (try clear p2); (try clear c3); (try clear c3b0); (try clear c3b1); (try clear p3); (try clear q3); (try clear hx3); (try clear c4); (try clear c5); (try clear c5b0); (try clear c7); (try clear c7b0); (try clear c7b1); (try clear c8); (try clear c8b0); (try clear hx347_0); (try clear hx347_1); (try clear hx347_2); (try clear hx347_3); (try clear hx347_4); (try clear p2); (try clear p347); (try clear q347)
      obtain ⟨x8_3, rfl, HA, HK3, HB⟩ := hrel
      cases gk with
      | zero => exact absurd HA.out (by simp [fluxionref29_Check.l1])
      | succ k3 =>
       have H := HA.out
       clear HA
       simp only [fluxionref29_Check.l1] at H
       by_cases c10 : x8_3 < (((rd_T50 l0 x5_2).f4).length : Int)
       focus
        rw [if_pos c10] at H
        have c10b0 := dT c10
        clear c10
        by_cases c11 : 0 ≤ x8_3
        focus
         rw [if_pos c11] at H
         have c11b0 := dT c11
         clear c11
         replace H := bS H
         obtain ⟨t349, A120, H⟩ := H
         (try dsimp only at H)
         have A12 := aS A120
         clear A120
         by_cases c13 : t349 = true
         focus
          subst c13
          rw [if_pos rfl] at H
          replace H := bS H
          obtain ⟨t351, A140, H⟩ := H
          (try dsimp only at H)
          have A14 := aS A140
          clear A140
          by_cases c15 : t351 = true
          focus
           subst c15
           rw [if_pos rfl] at H
           by_cases c16 : x8_3 = (wrap64 ((((rd_T50 l0 x5_2).f4).length : Int) - 1))
           focus
            rw [if_pos c16] at H
            have c16b0 := bT c16
            have c16b1 := nF c16
            clear c16
            by_cases c17 : ((rd_T63 ((rd_T50 l0 x5_2).f4) x8_3).f0) = 20
            focus
             rw [if_pos c17] at H
             have c17b0 := bT c17
             have c17b1 := nF c17
             clear c17
             have H' := aS H
             clear H
             have p348 : 0 ≤ (x8_3 : Int) := oa
             have q348 : x8_3 < (((rd_T50 l0 x5_2).f4).length : Int) := oa
             obtain ⟨ad348, A348_6, c348_6, A348_7, c348_7, e348, hx348_0, hx348_1, hx348_2, hx348_3, hx348_4, hx348_5, hx348_6, hx348_7, hl348_6, hi348_6, hl348_7, hi348_7⟩ := at_T63 HR347_4.out x8_3 p348 q348
             cases e348
             replace hx348_0 := xb HB hx348_0
             replace hx348_1 := xb HB hx348_1
             replace hx348_2 := xb HB hx348_2
             replace hx348_3 := xb HB hx348_3
             replace hx348_4 := xb HB hx348_4
             replace hx348_5 := xb HB hx348_5
             replace hx348_6 := xb HB hx348_6
             replace hx348_7 := xb HB hx348_7
             have HR348_6 := aS hi348_6
             have HC348_6 := aS hl348_6
             clear hi348_6 hl348_6
             have HR348_7 := aS hi348_7
             have HC348_7 := aS hl348_7
             clear hi348_7 hl348_7
             replace p348 := eq_true p348
             replace q348 := eq_true q348
            rotate_left 1
            focus
             rw [if_neg c17] at H
             have c17b0 := bF c17
             have c17b1 := nT c17
             by_cases c20 : ((rd_T63 ((rd_T50 l0 x5_2).f4) x8_3).f0) = 26
             focus
              rw [if_pos c20] at H
              have c20b0 := bT c20
              have c20b1 := nF c20
              clear c20
              have H' := aS H
              clear H
              have p348 : 0 ≤ (x8_3 : Int) := oa
              have q348 : x8_3 < (((rd_T50 l0 x5_2).f4).length : Int) := oa
              obtain ⟨ad348, A348_6, c348_6, A348_7, c348_7, e348, hx348_0, hx348_1, hx348_2, hx348_3, hx348_4, hx348_5, hx348_6, hx348_7, hl348_6, hi348_6, hl348_7, hi348_7⟩ := at_T63 HR347_4.out x8_3 p348 q348
              cases e348
              replace hx348_0 := xb HB hx348_0
              replace hx348_1 := xb HB hx348_1
              replace hx348_2 := xb HB hx348_2
              replace hx348_3 := xb HB hx348_3
              replace hx348_4 := xb HB hx348_4
              replace hx348_5 := xb HB hx348_5
              replace hx348_6 := xb HB hx348_6
              replace hx348_7 := xb HB hx348_7
              have HR348_6 := aS hi348_6
              have HC348_6 := aS hl348_6
              clear hi348_6 hl348_6
              have HR348_7 := aS hi348_7
              have HC348_7 := aS hl348_7
              clear hi348_7 hl348_7
              replace p348 := eq_true p348
              replace q348 := eq_true q348
             rotate_left 1
             focus
              rw [if_neg c20] at H
              have c20b0 := bF c20
              have c20b1 := nT c20
              simp only [Option.some.injEq, Prod.mk.injEq] at H
              obtain ⟨rfl, rfl, rfl⟩ := H
              have p348 : 0 ≤ (x8_3 : Int) := oa
              have q348 : x8_3 < (((rd_T50 l0 x5_2).f4).length : Int) := oa
              obtain ⟨ad348, A348_6, c348_6, A348_7, c348_7, e348, hx348_0, hx348_1, hx348_2, hx348_3, hx348_4, hx348_5, hx348_6, hx348_7, hl348_6, hi348_6, hl348_7, hi348_7⟩ := at_T63 HR347_4.out x8_3 p348 q348
              cases e348
              replace hx348_0 := xb HB hx348_0
              replace hx348_1 := xb HB hx348_1
              replace hx348_2 := xb HB hx348_2
              replace hx348_3 := xb HB hx348_3
              replace hx348_4 := xb HB hx348_4
              replace hx348_5 := xb HB hx348_5
              replace hx348_6 := xb HB hx348_6
              replace hx348_7 := xb HB hx348_7
              have HR348_6 := aS hi348_6
              have HC348_6 := aS hl348_6
              clear hi348_6 hl348_6
              have HR348_7 := aS hi348_7
              have HC348_7 := aS hl348_7
              clear hi348_7 hl348_7
              replace p348 := eq_true p348
              replace q348 := eq_true q348
             rotate_left 1
            rotate_left 2
           rotate_left 3
           focus
            rw [if_neg c16] at H
            have c16b0 := bF c16
            have c16b1 := nT c16
            have H' := aS H
            clear H
            have p348 : 0 ≤ (x8_3 : Int) := oa
            have q348 : x8_3 < (((rd_T50 l0 x5_2).f4).length : Int) := oa
            obtain ⟨ad348, A348_6, c348_6, A348_7, c348_7, e348, hx348_0, hx348_1, hx348_2, hx348_3, hx348_4, hx348_5, hx348_6, hx348_7, hl348_6, hi348_6, hl348_7, hi348_7⟩ := at_T63 HR347_4.out x8_3 p348 q348
            cases e348
            replace hx348_0 := xb HB hx348_0
            replace hx348_1 := xb HB hx348_1
            replace hx348_2 := xb HB hx348_2
            replace hx348_3 := xb HB hx348_3
            replace hx348_4 := xb HB hx348_4
            replace hx348_5 := xb HB hx348_5
            replace hx348_6 := xb HB hx348_6
            replace hx348_7 := xb HB hx348_7
            have HR348_6 := aS hi348_6
            have HC348_6 := aS hl348_6
            clear hi348_6 hl348_6
            have HR348_7 := aS hi348_7
            have HC348_7 := aS hl348_7
            clear hi348_7 hl348_7
            replace p348 := eq_true p348
            replace q348 := eq_true q348
           rotate_left 1
          rotate_left 4
          focus
           replace c15 := Bool.eq_false_iff.mpr c15
           subst c15
           rw [if_neg iN] at H
           simp only [Option.some.injEq, Prod.mk.injEq] at H
           obtain ⟨rfl, rfl, rfl⟩ := H
           have p348 : 0 ≤ (x8_3 : Int) := oa
           have q348 : x8_3 < (((rd_T50 l0 x5_2).f4).length : Int) := oa
           obtain ⟨ad348, A348_6, c348_6, A348_7, c348_7, e348, hx348_0, hx348_1, hx348_2, hx348_3, hx348_4, hx348_5, hx348_6, hx348_7, hl348_6, hi348_6, hl348_7, hi348_7⟩ := at_T63 HR347_4.out x8_3 p348 q348
           cases e348
           replace hx348_0 := xb HB hx348_0
           replace hx348_1 := xb HB hx348_1
           replace hx348_2 := xb HB hx348_2
           replace hx348_3 := xb HB hx348_3
           replace hx348_4 := xb HB hx348_4
           replace hx348_5 := xb HB hx348_5
           replace hx348_6 := xb HB hx348_6
           replace hx348_7 := xb HB hx348_7
           have HR348_6 := aS hi348_6
           have HC348_6 := aS hl348_6
           clear hi348_6 hl348_6
           have HR348_7 := aS hi348_7
           have HC348_7 := aS hl348_7
           clear hi348_7 hl348_7
           replace p348 := eq_true p348
           replace q348 := eq_true q348
          rotate_left 1
         rotate_left 5
         focus
          replace c13 := Bool.eq_false_iff.mpr c13
          subst c13
          rw [if_neg iN] at H
          simp only [Option.some.injEq, Prod.mk.injEq] at H
          obtain ⟨rfl, rfl, rfl⟩ := H
          have p348 : 0 ≤ (x8_3 : Int) := oa
          have q348 : x8_3 < (((rd_T50 l0 x5_2).f4).length : Int) := oa
          obtain ⟨ad348, A348_6, c348_6, A348_7, c348_7, e348, hx348_0, hx348_1, hx348_2, hx348_3, hx348_4, hx348_5, hx348_6, hx348_7, hl348_6, hi348_6, hl348_7, hi348_7⟩ := at_T63 HR347_4.out x8_3 p348 q348
          cases e348
          replace hx348_0 := xb HB hx348_0
          replace hx348_1 := xb HB hx348_1
          replace hx348_2 := xb HB hx348_2
          replace hx348_3 := xb HB hx348_3
          replace hx348_4 := xb HB hx348_4
          replace hx348_5 := xb HB hx348_5
          replace hx348_6 := xb HB hx348_6
          replace hx348_7 := xb HB hx348_7
          have HR348_6 := aS hi348_6
          have HC348_6 := aS hl348_6
          clear hi348_6 hl348_6
          have HR348_7 := aS hi348_7
          have HC348_7 := aS hl348_7
          clear hi348_7 hl348_7
          replace p348 := eq_true p348
          replace q348 := eq_true q348
         rotate_left 1
        rotate_left 6
        focus
         rw [if_neg c11] at H
         cases H
       rotate_left 6
       focus
        rw [if_neg c10] at H
        have c10b0 := dF c10
        clear c10
        have H' := aS H
        clear H
        go_wp2
        go_roundg k3
        case measure => have := HJ1.out; have := HK2.out; have := HK3.out; omega
        case rel => exact ⟨(wrap64 (x5_2 + 1)), rs, H', ⟨by have := HJ1.out; have := HK2.out; have := HK3.out; omega⟩, ⟨bl HB⟩⟩
       all_goals (go_wp2_with (first | ((with_reducible refine gate_callee (f := 34) rfl ?_); refine gl 46 Tryz.func34 #[.agg #[.int .i64 ((rd_T63 ((rd_T50 l0 x5_2).f4) x8_3).f0), .int .i64 ((rd_T63 ((rd_T50 l0 x5_2).f4) x8_3).f1), .int .i64 ((rd_T63 ((rd_T50 l0 x5_2).f4) x8_3).f2), .int .i64 ((rd_T63 ((rd_T50 l0 x5_2).f4) x8_3).f3), .int .i64 ((rd_T63 ((rd_T50 l0 x5_2).f4) x8_3).f4.f0), .bool ((rd_T63 ((rd_T50 l0 x5_2).f4) x8_3).f4.f1), .slice A348_6 ((rd_T63 ((rd_T50 l0 x5_2).f4) x8_3).f4.f2).length c348_6, .slice A348_7 ((rd_T63 ((rd_T50 l0 x5_2).f4) x8_3).f4.f3).length c348_7]] ?_; (with_reducible refine (fluxionref29_Formed.calls k3 ((rd_T63 ((rd_T50 l0 x5_2).f4) x8_3).f0) ((rd_T63 ((rd_T50 l0 x5_2).f4) x8_3).f1) ((rd_T63 ((rd_T50 l0 x5_2).f4) x8_3).f2) ((rd_T63 ((rd_T50 l0 x5_2).f4) x8_3).f3) ((rd_T63 ((rd_T50 l0 x5_2).f4) x8_3).f4.f0) ((rd_T63 ((rd_T50 l0 x5_2).f4) x8_3).f4.f1) _ _ ((rd_T63 ((rd_T50 l0 x5_2).f4) x8_3).f4.f2) _ _ ((rd_T63 ((rd_T50 l0 x5_2).f4) x8_3).f4.f3) true _ ?side1 ?side2 ?side3 ?side4 A12.out).mono ?_); (case side1 => exact cb HR348_6 HB); (case side2 => exact HC348_6.out); (case side3 => exact cb HR348_7 HB); (case side4 => exact HC348_7.out); rintro e wq1 ⟨rfl, hb⟩; refine ⟨_, rfl, ?_⟩; replace HB := aS (bs_ (bl HB) hb); clear hb; have p350 : 0 ≤ (x8_3 : Int) := oa; have q350 : x8_3 < (((rd_T50 l0 x5_2).f4).length : Int) := oa; obtain ⟨ad350, A350_6, c350_6, A350_7, c350_7, e350, hx350_0, hx350_1, hx350_2, hx350_3, hx350_4, hx350_5, hx350_6, hx350_7, hl350_6, hi350_6, hl350_7, hi350_7⟩ := at_T63 HR347_4.out x8_3 p350 q350; obtain rfl : ad348 = ad350 := (by injection e350); replace hx350_0 := xb HB hx350_0; replace hx350_1 := xb HB hx350_1; replace hx350_2 := xb HB hx350_2; replace hx350_3 := xb HB hx350_3; replace hx350_4 := xb HB hx350_4; replace hx350_5 := xb HB hx350_5; replace hx350_6 := xb HB hx350_6; replace hx350_7 := xb HB hx350_7; have HR350_6 := aS hi350_6; have HC350_6 := aS hl350_6; clear hi350_6 hl350_6; have HR350_7 := aS hi350_7; have HC350_7 := aS hl350_7; clear hi350_7 hl350_7; replace p350 := eq_true p350; replace q350 := eq_true q350) | ((with_reducible refine gate_callee (f := 35) rfl ?_); refine gl 57 Tryz.func35 #[.slice (some ad347) l0.length c0, .int .i64 x5_2, .agg #[.int .i64 ((rd_T63 ((rd_T50 l0 x5_2).f4) x8_3).f0), .int .i64 ((rd_T63 ((rd_T50 l0 x5_2).f4) x8_3).f1), .int .i64 ((rd_T63 ((rd_T50 l0 x5_2).f4) x8_3).f2), .int .i64 ((rd_T63 ((rd_T50 l0 x5_2).f4) x8_3).f3), .int .i64 ((rd_T63 ((rd_T50 l0 x5_2).f4) x8_3).f4.f0), .bool ((rd_T63 ((rd_T50 l0 x5_2).f4) x8_3).f4.f1), .slice A350_6 ((rd_T63 ((rd_T50 l0 x5_2).f4) x8_3).f4.f2).length c350_6, .slice A350_7 ((rd_T63 ((rd_T50 l0 x5_2).f4) x8_3).f4.f3).length c350_7]] ?_; (with_reducible refine (ref_known.calls _ _ l0 x5_2 ((rd_T63 ((rd_T50 l0 x5_2).f4) x8_3).f0) ((rd_T63 ((rd_T50 l0 x5_2).f4) x8_3).f1) ((rd_T63 ((rd_T50 l0 x5_2).f4) x8_3).f2) ((rd_T63 ((rd_T50 l0 x5_2).f4) x8_3).f3) ((rd_T63 ((rd_T50 l0 x5_2).f4) x8_3).f4.f0) ((rd_T63 ((rd_T50 l0 x5_2).f4) x8_3).f4.f1) _ _ ((rd_T63 ((rd_T50 l0 x5_2).f4) x8_3).f4.f2) _ _ ((rd_T63 ((rd_T50 l0 x5_2).f4) x8_3).f4.f3) true _ ?side1 ?side2 ?side3 ?side4 ?side5 ?side6 A14.out).mono ?_); (case side1 => exact cb HR0 HB); (case side2 => exact HC0.out); (case side3 => exact cb HR350_6 HB); (case side4 => exact HC350_6.out); (case side5 => exact cb HR350_7 HB); (case side6 => exact HC350_7.out); rintro e wq2 ⟨rfl, hb⟩; refine ⟨_, rfl, ?_⟩; replace HB := aS (bs_ (bl HB) hb); clear hb; have p352 : 0 ≤ (x8_3 : Int) := oa; have q352 : x8_3 < (((rd_T50 l0 x5_2).f4).length : Int) := oa; obtain ⟨ad352, A352_6, c352_6, A352_7, c352_7, e352, hx352_0, hx352_1, hx352_2, hx352_3, hx352_4, hx352_5, hx352_6, hx352_7, hl352_6, hi352_6, hl352_7, hi352_7⟩ := at_T63 HR347_4.out x8_3 p352 q352; obtain rfl : ad348 = ad352 := (by injection e352); replace hx352_0 := xb HB hx352_0; replace hx352_1 := xb HB hx352_1; replace hx352_2 := xb HB hx352_2; replace hx352_3 := xb HB hx352_3; replace hx352_4 := xb HB hx352_4; replace hx352_5 := xb HB hx352_5; replace hx352_6 := xb HB hx352_6; replace hx352_7 := xb HB hx352_7; have HR352_6 := aS hi352_6; have HC352_6 := aS hl352_6; clear hi352_6 hl352_6; have HR352_7 := aS hi352_7; have HC352_7 := aS hl352_7; clear hi352_7 hl352_7; replace p352 := eq_true p352; replace q352 := eq_true q352) | ((with_reducible refine gate_callee (f := 35) rfl ?_); refine gl 57 Tryz.func35 #[.slice (some ad347) l0.length c0, .int .i64 x5_2, .agg #[.int .i64 ((rd_T63 ((rd_T50 l0 x5_2).f4) x8_3).f0), .int .i64 ((rd_T63 ((rd_T50 l0 x5_2).f4) x8_3).f1), .int .i64 ((rd_T63 ((rd_T50 l0 x5_2).f4) x8_3).f2), .int .i64 ((rd_T63 ((rd_T50 l0 x5_2).f4) x8_3).f3), .int .i64 ((rd_T63 ((rd_T50 l0 x5_2).f4) x8_3).f4.f0), .bool ((rd_T63 ((rd_T50 l0 x5_2).f4) x8_3).f4.f1), .slice A350_6 ((rd_T63 ((rd_T50 l0 x5_2).f4) x8_3).f4.f2).length c350_6, .slice A350_7 ((rd_T63 ((rd_T50 l0 x5_2).f4) x8_3).f4.f3).length c350_7]] ?_; (with_reducible refine (ref_known.calls _ _ l0 x5_2 ((rd_T63 ((rd_T50 l0 x5_2).f4) x8_3).f0) ((rd_T63 ((rd_T50 l0 x5_2).f4) x8_3).f1) ((rd_T63 ((rd_T50 l0 x5_2).f4) x8_3).f2) ((rd_T63 ((rd_T50 l0 x5_2).f4) x8_3).f3) ((rd_T63 ((rd_T50 l0 x5_2).f4) x8_3).f4.f0) ((rd_T63 ((rd_T50 l0 x5_2).f4) x8_3).f4.f1) _ _ ((rd_T63 ((rd_T50 l0 x5_2).f4) x8_3).f4.f2) _ _ ((rd_T63 ((rd_T50 l0 x5_2).f4) x8_3).f4.f3) true _ ?side1 ?side2 ?side3 ?side4 ?side5 ?side6 A14.out).mono ?_); (case side1 => exact cb HR0 HB); (case side2 => exact HC0.out); (case side3 => exact cb HR350_6 HB); (case side4 => exact HC350_6.out); (case side5 => exact cb HR350_7 HB); (case side6 => exact HC350_7.out); rintro e wq2 ⟨rfl, hb⟩; refine ⟨_, rfl, ?_⟩; replace HB := aS (bs_ (bl HB) hb); clear hb; have p352 : 0 ≤ (x8_3 : Int) := oa; have q352 : x8_3 < (((rd_T50 l0 x5_2).f4).length : Int) := oa; obtain ⟨ad352, A352_6, c352_6, A352_7, c352_7, e352, hx352_0, hx352_1, hx352_2, hx352_3, hx352_4, hx352_5, hx352_6, hx352_7, hl352_6, hi352_6, hl352_7, hi352_7⟩ := at_T63 HR347_4.out x8_3 p352 q352; obtain rfl : ad348 = ad352 := (by injection e352); replace hx352_0 := xb HB hx352_0; replace hx352_1 := xb HB hx352_1; replace hx352_2 := xb HB hx352_2; replace hx352_3 := xb HB hx352_3; replace hx352_4 := xb HB hx352_4; replace hx352_5 := xb HB hx352_5; replace hx352_6 := xb HB hx352_6; replace hx352_7 := xb HB hx352_7; have HR352_6 := aS hi352_6; have HC352_6 := aS hl352_6; clear hi352_6 hl352_6; have HR352_7 := aS hi352_7; have HC352_7 := aS hl352_7; clear hi352_7 hl352_7; replace p352 := eq_true p352; replace q352 := eq_true q352; have p353 : 0 ≤ (x8_3 : Int) := oa; have q353 : x8_3 < (((rd_T50 l0 x5_2).f4).length : Int) := oa; obtain ⟨ad353, A353_6, c353_6, A353_7, c353_7, e353, hx353_0, hx353_1, hx353_2, hx353_3, hx353_4, hx353_5, hx353_6, hx353_7, hl353_6, hi353_6, hl353_7, hi353_7⟩ := at_T63 HR347_4.out x8_3 p353 q353; obtain rfl : ad348 = ad353 := (by injection e353); replace hx353_0 := xb HB hx353_0; replace hx353_1 := xb HB hx353_1; replace hx353_2 := xb HB hx353_2; replace hx353_3 := xb HB hx353_3; replace hx353_4 := xb HB hx353_4; replace hx353_5 := xb HB hx353_5; replace hx353_6 := xb HB hx353_6; replace hx353_7 := xb HB hx353_7; have HR353_6 := aS hi353_6; have HC353_6 := aS hl353_6; clear hi353_6 hl353_6; have HR353_7 := aS hi353_7; have HC353_7 := aS hl353_7; clear hi353_7 hl353_7; replace p353 := eq_true p353; replace q353 := eq_true q353; have ea_ := sI (hx352_6.symm.trans hx353_6); injection ea_ with ea_ en_ ec_; subst ea_; subst ec_; clear en_; have ea_ := sI (hx352_7.symm.trans hx353_7); injection ea_ with ea_ en_ ec_; subst ea_; subst ec_; clear en_) | ((with_reducible refine gate_callee (f := 35) rfl ?_); refine gl 57 Tryz.func35 #[.slice (some ad347) l0.length c0, .int .i64 x5_2, .agg #[.int .i64 ((rd_T63 ((rd_T50 l0 x5_2).f4) x8_3).f0), .int .i64 ((rd_T63 ((rd_T50 l0 x5_2).f4) x8_3).f1), .int .i64 ((rd_T63 ((rd_T50 l0 x5_2).f4) x8_3).f2), .int .i64 ((rd_T63 ((rd_T50 l0 x5_2).f4) x8_3).f3), .int .i64 ((rd_T63 ((rd_T50 l0 x5_2).f4) x8_3).f4.f0), .bool ((rd_T63 ((rd_T50 l0 x5_2).f4) x8_3).f4.f1), .slice A350_6 ((rd_T63 ((rd_T50 l0 x5_2).f4) x8_3).f4.f2).length c350_6, .slice A350_7 ((rd_T63 ((rd_T50 l0 x5_2).f4) x8_3).f4.f3).length c350_7]] ?_; (with_reducible refine (ref_known.calls _ _ l0 x5_2 ((rd_T63 ((rd_T50 l0 x5_2).f4) x8_3).f0) ((rd_T63 ((rd_T50 l0 x5_2).f4) x8_3).f1) ((rd_T63 ((rd_T50 l0 x5_2).f4) x8_3).f2) ((rd_T63 ((rd_T50 l0 x5_2).f4) x8_3).f3) ((rd_T63 ((rd_T50 l0 x5_2).f4) x8_3).f4.f0) ((rd_T63 ((rd_T50 l0 x5_2).f4) x8_3).f4.f1) _ _ ((rd_T63 ((rd_T50 l0 x5_2).f4) x8_3).f4.f2) _ _ ((rd_T63 ((rd_T50 l0 x5_2).f4) x8_3).f4.f3) true _ ?side1 ?side2 ?side3 ?side4 ?side5 ?side6 A14.out).mono ?_); (case side1 => exact cb HR0 HB); (case side2 => exact HC0.out); (case side3 => exact cb HR350_6 HB); (case side4 => exact HC350_6.out); (case side5 => exact cb HR350_7 HB); (case side6 => exact HC350_7.out); rintro e wq2 ⟨rfl, hb⟩; refine ⟨_, rfl, ?_⟩; replace HB := aS (bs_ (bl HB) hb); clear hb) | ((with_reducible refine gate_callee (f := 35) rfl ?_); refine gl 57 Tryz.func35 #[.slice (some ad347) l0.length c0, .int .i64 x5_2, .agg #[.int .i64 ((rd_T63 ((rd_T50 l0 x5_2).f4) x8_3).f0), .int .i64 ((rd_T63 ((rd_T50 l0 x5_2).f4) x8_3).f1), .int .i64 ((rd_T63 ((rd_T50 l0 x5_2).f4) x8_3).f2), .int .i64 ((rd_T63 ((rd_T50 l0 x5_2).f4) x8_3).f3), .int .i64 ((rd_T63 ((rd_T50 l0 x5_2).f4) x8_3).f4.f0), .bool ((rd_T63 ((rd_T50 l0 x5_2).f4) x8_3).f4.f1), .slice A350_6 ((rd_T63 ((rd_T50 l0 x5_2).f4) x8_3).f4.f2).length c350_6, .slice A350_7 ((rd_T63 ((rd_T50 l0 x5_2).f4) x8_3).f4.f3).length c350_7]] ?_; (with_reducible refine (ref_known.calls _ _ l0 x5_2 ((rd_T63 ((rd_T50 l0 x5_2).f4) x8_3).f0) ((rd_T63 ((rd_T50 l0 x5_2).f4) x8_3).f1) ((rd_T63 ((rd_T50 l0 x5_2).f4) x8_3).f2) ((rd_T63 ((rd_T50 l0 x5_2).f4) x8_3).f3) ((rd_T63 ((rd_T50 l0 x5_2).f4) x8_3).f4.f0) ((rd_T63 ((rd_T50 l0 x5_2).f4) x8_3).f4.f1) _ _ ((rd_T63 ((rd_T50 l0 x5_2).f4) x8_3).f4.f2) _ _ ((rd_T63 ((rd_T50 l0 x5_2).f4) x8_3).f4.f3) false _ ?side1 ?side2 ?side3 ?side4 ?side5 ?side6 A14.out).mono ?_); (case side1 => exact cb HR0 HB); (case side2 => exact HC0.out); (case side3 => exact cb HR350_6 HB); (case side4 => exact HC350_6.out); (case side5 => exact cb HR350_7 HB); (case side6 => exact HC350_7.out); rintro e wq2 ⟨rfl, hb⟩; refine ⟨_, rfl, ?_⟩; replace HB := aS (bs_ (bl HB) hb); clear hb) | ((with_reducible refine gate_callee (f := 34) rfl ?_); refine gl 46 Tryz.func34 #[.agg #[.int .i64 ((rd_T63 ((rd_T50 l0 x5_2).f4) x8_3).f0), .int .i64 ((rd_T63 ((rd_T50 l0 x5_2).f4) x8_3).f1), .int .i64 ((rd_T63 ((rd_T50 l0 x5_2).f4) x8_3).f2), .int .i64 ((rd_T63 ((rd_T50 l0 x5_2).f4) x8_3).f3), .int .i64 ((rd_T63 ((rd_T50 l0 x5_2).f4) x8_3).f4.f0), .bool ((rd_T63 ((rd_T50 l0 x5_2).f4) x8_3).f4.f1), .slice A348_6 ((rd_T63 ((rd_T50 l0 x5_2).f4) x8_3).f4.f2).length c348_6, .slice A348_7 ((rd_T63 ((rd_T50 l0 x5_2).f4) x8_3).f4.f3).length c348_7]] ?_; (with_reducible refine (fluxionref29_Formed.calls k3 ((rd_T63 ((rd_T50 l0 x5_2).f4) x8_3).f0) ((rd_T63 ((rd_T50 l0 x5_2).f4) x8_3).f1) ((rd_T63 ((rd_T50 l0 x5_2).f4) x8_3).f2) ((rd_T63 ((rd_T50 l0 x5_2).f4) x8_3).f3) ((rd_T63 ((rd_T50 l0 x5_2).f4) x8_3).f4.f0) ((rd_T63 ((rd_T50 l0 x5_2).f4) x8_3).f4.f1) _ _ ((rd_T63 ((rd_T50 l0 x5_2).f4) x8_3).f4.f2) _ _ ((rd_T63 ((rd_T50 l0 x5_2).f4) x8_3).f4.f3) false _ ?side1 ?side2 ?side3 ?side4 A12.out).mono ?_); (case side1 => exact cb HR348_6 HB); (case side2 => exact HC348_6.out); (case side3 => exact cb HR348_7 HB); (case side4 => exact HC348_7.out); rintro e wq1 ⟨rfl, hb⟩; refine ⟨_, rfl, ?_⟩; replace HB := aS (bs_ (bl HB) hb); clear hb)))
       ·go_roundg k3
        case measure => have := HJ1.out; have := HK2.out; have := HK3.out; omega
        case rel => exact ⟨(wrap64 (x8_3 + 1)), rs, H', ⟨by have := HJ1.out; have := HK2.out; have := HK3.out; omega⟩, ⟨bl HB⟩⟩
       ·go_roundg k3
        case measure => have := HJ1.out; have := HK2.out; have := HK3.out; omega
        case rel => exact ⟨(wrap64 (x8_3 + 1)), rs, H', ⟨by have := HJ1.out; have := HK2.out; have := HK3.out; omega⟩, ⟨bl HB⟩⟩
       ·go_ret3
        exact ⟨re, bl HB⟩
       ·go_roundg k3
        case measure => have := HJ1.out; have := HK2.out; have := HK3.out; omega
        case rel => exact ⟨(wrap64 (x8_3 + 1)), rs, H', ⟨by have := HJ1.out; have := HK2.out; have := HK3.out; omega⟩, ⟨bl HB⟩⟩
       ·go_ret3
        exact ⟨re, bl HB⟩
       ·go_ret3
        exact ⟨re, bl HB⟩
end Go.Proofs.YtbkknoipgmlcmaaGreatDoor.P

namespace Go.Proofs.YtbkknoipgmlcmaaGreatDoor.B
open Go.Shelf Go.RowKit
theorem infoByte : (Tryz.prog.info? 5).map (fun i => (i.zero, i.size, i.bytes)) = some (some (.int .u8 0), 1, 1) := by kernel_rfl
theorem sizeBuilder : (Tryz.prog.info? 85).map (fun i => i.size) = some 2 := by kernel_rfl
theorem copyCheck_used (b : Nat) (w : World) (h0 : w.cell? ⟨b, 0, none⟩ = some (.pointer (some ⟨b, 0, none⟩))) :
 Calls Tryz.prog 103 #[.pointer (some ⟨b, 0, none⟩)] w fun e w' => e = .returned (.tuple #[]) ∧ w' = w := by
 obtain ⟨j, hj, _⟩ := Option.map_eq_some_iff.1 sizeBuilder
 go_enter Tryz.func103, Tryz.ntmps103
 go_wp2
 rw [Lib.run_neq_ptr_same w _ Tryz.underlying83 hj]
 go_wp2
 go_end0
 exact ⟨rfl, rfl⟩
theorem liesBuilder : liesAt Tryz.prog Tryz.prog.depth 85 (2 / Tryz.prog.cellsOf 85) 0 85 1 = true := by kernel_rfl
theorem copyCheck_fresh (b : Nat) (w : World) (h0 : w.cell? ⟨b, 0, none⟩ = some (.pointer none)) (hsh : w.shape? b = some (85, 2)) (hfz : w.frozen? ⟨b, 0, none⟩ = false) :
 Calls Tryz.prog 103 #[.pointer (some ⟨b, 0, none⟩)] w fun e w' => e = .returned (.tuple #[]) ∧ w' = w.setCell ⟨b, 0, none⟩ (.pointer (some ⟨b, 0, none⟩)) := by
 obtain ⟨j, hj, hjs⟩ := Option.map_eq_some_iff.1 sizeBuilder
 go_enter Tryz.func103, Tryz.ntmps103
 go_wp2
 rw [Lib.run_to_unsafe w ⟨b, 0, none⟩ Tryz.underlying83 Tryz.underlying184 hj (by rw [hjs]; decide) hsh (Nat.zero_lt_succ 1)]
 simp only [Result.andThen]
 rw [Oper.upon_value]
 go_wp2
 rw [run_callFunc_extern Tryz.func145 (by kernel_rfl) (by kernel_rfl) (by kernel_rfl) (e := Extern.AbiNoEscape.same) (by kernel_rfl)]
 rw [Lib.run_noEscape]
 simp only [Result.andThen]
 rw [Oper.upon_value]
 go_wp2
 rw [Lib.run_from_unsafe w ⟨b, 0, none⟩ Tryz.underlying184 Tryz.underlying83 hj hsh liesBuilder]
 simp only [Result.andThen]
 rw [Oper.upon_value]
 go_wp2
 go_end0
 exact ⟨rfl, rfl⟩
theorem copyCheck (B b : Nat) (bs : List Value) (w : World) (h : Lib.IsBuilderF 85 5 B b bs w) :
 Calls Tryz.prog 103 #[.pointer (some ⟨b, 0, none⟩)] w fun e w' => e = .returned (.tuple #[]) ∧ (Lib.BuilderAtF 85 5 B b (.pointer (some ⟨b, 0, none⟩)) bs w' ∧ Below B w w' ∧ Lib.OthersKept 5 (some b) w w') := by
 rcases h with h | h
 ·refine (copyCheck_fresh b w h.cell0 h.shape h.frozen0).mono ?_
  rintro e w' ⟨rfl, rfl⟩
  exact ⟨rfl, h.used _, (Below.refl B w).setCell (p := ⟨b, 0, none⟩) h.1 _, (Lib.OthersKept.refl _ _ w).setCell ⟨b, 0, none⟩ rfl _⟩
 ·refine (copyCheck_used b w h.cell0).mono ?_
  rintro e w' ⟨rfl, rfl⟩
  exact ⟨rfl, h, Below.refl B _, Lib.OthersKept.refl _ _ _⟩
theorem writeString (B b : Nat) (bs : List Value) (s : ByteArray) (w : World) (h : Lib.IsBuilderF 85 5 B b bs w) (hlen : bs.length + s.size ≤ 140737488355328) (hBw : B ≤ w.heap.size) :
 Calls Tryz.prog 46 #[.pointer (some ⟨b, 0, none⟩), .string s] w fun e w' => e = .returned (.tuple #[.int .i64 s.size, .nilIface]) ∧ (Lib.BuilderAtF 85 5 B b (.pointer (some ⟨b, 0, none⟩)) (bs ++ Lib.strCells s) w' ∧ Below B w w' ∧ Lib.OthersKept 5 (some b) w w') := by
 obtain ⟨i0, hi, hz0, hz1, hz2⟩ := info_parts infoByte
 go_enter Tryz.func46, Tryz.ntmps46
 go_wp2_with (go_at_call 103; refine (copyCheck B b bs _ h).mono ?_)
 rintro e w1 ⟨rfl, h1, hb1, hk1⟩
 obtain ⟨hB, v, hbk, hown, hne⟩ := h1
 have c0 : w1.cell? ⟨b, 0, none⟩ = some (.pointer (some ⟨b, 0, none⟩)) := by rw [Lib.cell_of_heap hbk]; rfl
 have c1 : w1.cell? ⟨b, 1, none⟩ = some v := by rw [Lib.cell_of_heap hbk]; rfl
 go_wp2_with (at_builtin; refine Lib.wpList_append_own_stringF _ rfl _ _ 30 9 rfl B 5 i0 Tryz.underlying30 Tryz.underlying9 hi hz0 hz1 hz2 _ _ _ rfl hown s rfl ?c3 ?c4 ?c5 ?_)
 case c3 => unfold maxLen; omega
 case c4 => omega
 case c5 => have := hb1.size; omega
 intro v' w2 hown' hgrow _
 have hlt : b < w1.heap.size := by
  rcases Nat.lt_or_ge b w1.heap.size with h' | h'
  ·exact h'
  ·simp [Array.getElem?_eq_none h'] at hbk
 have hb2 : w2.heap[b]? = some (.cells #[.pointer (some ⟨b, 0, none⟩), v] 85 (0, 0)) := by
  rw [hgrow.block b hlt (fun e => hne e.symm)]
  exact hbk
 have d0 : w2.cell? ⟨b, 0, none⟩ = some (.pointer (some ⟨b, 0, none⟩)) := by rw [Lib.cell_of_heap hb2]; rfl
 have d1 : w2.cell? ⟨b, 1, none⟩ = some v := by rw [Lib.cell_of_heap hb2]; rfl
 have f1 : w2.frozen? ⟨b, 1, none⟩ = false := Lib.frozen_of_heap hb2 1
 obtain ⟨ao, n', cap, rfl⟩ : ∃ ao n' cap, v' = .slice ao n' cap := by
  rcases hown'.2 with ⟨hv, _⟩ | ⟨g, cap, cur, fz, hv, _⟩
  ·exact ⟨_, _, _, hv⟩
  ·exact ⟨_, _, _, hv⟩
 go_wp2
 go_ret2
 refine ⟨rfl, ?_, ?_, (hk1.grown hgrow (Lib.ownsRowF_kind hown)).setCell ⟨b, 1, none⟩ rfl _⟩
 ·exact Lib.BuilderAtF.put (T := 85) (e := 5) hB hb2 (bs' := bs ++ Lib.strCells s) (by simpa [Lib.strCells_length] using hown') (by decide)
 ·exact (hb1.grown hgrow (by have := hb1.size; omega) (fun k hk => (hown.lt k hk).1)).setCell (p := ⟨b, 1, none⟩) hB _
end Go.Proofs.YtbkknoipgmlcmaaGreatDoor.B

namespace Go.Proofs.YtbkknoipgmlcmaaGreatDoor.P
open Go.RowKit Go.Proofs.YtbkknoipgmlcmaaGreatDoorW.PrintWords Go.Proofs.YtbkknoipgmlcmaaGreatDoorW.PrintLast Go.Proofs.YtbkknoipgmlcmaaGreatDoorW.PrintMore
open Go.Proofs.FX
theorem check_sq (A0 : Option Addr) (c0 : Nat) (w : World) (hG : GW w) (hr0 : Kd.C k50 w A0 1 [sqR]) (hc0 : 1 ≤ c0) : Calls Tryz.prog 12 #[.slice A0 1 c0] w fun e w' => e = .returned (.tuple #[.int .i64 0, .int .i64 0, .int .i64 0]) ∧ Below w.heap.size w w' :=
 code_Check.calls 30 A0 c0 [sqR] 0 0 0 w hG hr0 hc0 (by kernel_rfl)
theorem isCode_sq (A0 : Option Addr) (c0 : Nat) (w : World) (hG : GW w) (hr0 : Kd.C k50 w A0 1 [sqR]) (hc0 : 1 ≤ c0) : Calls Tryz.prog 13 #[.slice A0 1 c0] w fun e w' => e = .returned (.bool true) ∧ Below w.heap.size w w' :=
 code_IsCode.calls 30 A0 c0 [sqR] true w hG hr0 hc0 (by kernel_rfl)
def strings_Join.f (l : List ByteArray) (_ : ByteArray) : Option ByteArray := match l with | [] => some ⟨#[]⟩ | [x] => some x | _ => none
theorem join_one (ad : Addr) (c : Nat) (x s : ByteArray) (w : World) (h : w.cell? ad = some (.string x)) :
 Calls Tryz.prog 105 #[.slice (some ad) 1 c, .string s] w fun e w' => e = .returned (.string x) ∧ Below w.heap.size w w' := by
 obtain ⟨ab, ao, asl⟩ := ad
 go_enter Tryz.func105, Tryz.ntmps105
 go_wp2
 go_ret
 exact ⟨rfl, Below.refl _ _⟩
theorem strings_Join.calls (A0 : Option Addr) (c0 : Nat) (l0 : List ByteArray) (a1 : ByteArray) (r : ByteArray) (w : World) (hr0 : Kd.C Kd.string w A0 l0.length l0) (hc0 : l0.length ≤ c0) (h : strings_Join.f l0 a1 = some r) :
 Calls Tryz.prog 105 #[.slice A0 l0.length c0, .string a1] w fun e w' => e = .returned (.string r) ∧ Below w.heap.size w w' := by
 match l0, h with
 | [], h =>
  obtain rfl := Option.some.inj h
  refine (Tryz.strings_Join_none A0 c0 a1 w).mono ?_
  rintro e w' ⟨rfl, rfl⟩
  exact ⟨rfl, Below.refl _ _⟩
 | [x], h =>
  obtain rfl := Option.some.inj h
  obtain ⟨ad, rfl, hx⟩ := Kd.at_string hr0 0 (by decide) (by simp)
  exact join_one ad c0 x a1 w hx
 | _ :: _ :: _, h => cases h
end Go.Proofs.YtbkknoipgmlcmaaGreatDoor.P

