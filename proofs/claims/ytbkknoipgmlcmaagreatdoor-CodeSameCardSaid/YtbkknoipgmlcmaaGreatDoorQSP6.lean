import Derived.Test.YtbkknoipgmlcmaaGreatDoorQSXZ
import Derived.Test.YtbkknoipgmlcmaaGreatDoorQSP0
import Derived.Test.YtbkknoipgmlcmaaGreatDoorQSP4
import Derived.Test.YtbkknoipgmlcmaaGreatDoorQSP5
namespace Go.Proofs.YtbkknoipgmlcmaaGreatDoor.P
open Go.RowKit Go.Proofs.YtbkknoipgmlcmaaGreatDoorW.PrintWords Go.Proofs.YtbkknoipgmlcmaaGreatDoorW.PrintLast Go.Proofs.YtbkknoipgmlcmaaGreatDoorW.PrintMore
open Go.Proofs.FX
attribute [local go_sem] cell_twice le_add_cast
attribute [local go_sem] max2_int min2_int max_two min_two max_three min_three max_four min_four
set_option linter.unusedVariables false
set_option linter.unusedSimpArgs false
mutual
def fluxionref29_Same.l0 : Nat → List (S50) → List (S50) → Int → Int → Option (Bool)
 | 0, _, _, _, _ => none
 | k + 1, x0, x1, x15, x16 => if x16 < x15 then (if 0 ≤ x16 then (if x16 < (x0.length : Int) then (if x16 < (x1.length : Int) then (if ((rd_T50 x0 x16).f0).toList = ((rd_T50 x1 x16).f0).toList then (if ((rd_T50 x0 x16).f3) = ((rd_T50 x1 x16).f3) then ((fluxionref29_alike.f k ((rd_T50 x0 x16).f1) ((rd_T50 x1 x16).f1)).bind fun t186 => (if t186 = true then ((fluxionref29_alike.f k ((rd_T50 x0 x16).f2) ((rd_T50 x1 x16).f2)).bind fun t189 => (if t189 = true then (fluxionref29_Same.j1 k x0 x1 x16 x15 x16 ((((rd_T50 x0 x16).f4).length : Int) != (((rd_T50 x1 x16).f4).length : Int))) else (fluxionref29_Same.j1 k x0 x1 x16 x15 x16 true))) else (fluxionref29_Same.j1 k x0 x1 x16 x15 x16 true))) else (fluxionref29_Same.j1 k x0 x1 x16 x15 x16 true)) else (fluxionref29_Same.j1 k x0 x1 x16 x15 x16 true)) else (none)) else (none)) else (none)) else (some true)
def fluxionref29_Same.j1 : Nat → List (S50) → List (S50) → Int → Int → Int → Bool → Option (Bool)
 | 0, _, _, _, _, _, _ => none
 | k + 1, x0, x1, x5, x15, x16, x85 => if x85 = true then (some false) else (if 0 ≤ x5 then (if x5 < (x0.length : Int) then (fluxionref29_Same.l1 k x0 x1 x5 x15 x16 ((rd_T50 x0 x5).f4) (((rd_T50 x0 x5).f4).length : Int) 0) else (none)) else (none))
def fluxionref29_Same.l1 : Nat → List (S50) → List (S50) → Int → Int → Int → List (S63) → Int → Int → Option (Bool)
 | 0, _, _, _, _, _, _, _, _ => none
 | k + 1, x0, x1, x5, x15, x16, x90, x91, x92 => if x92 < x91 then (if 0 ≤ x92 then (if x92 < (x90.length : Int) then (if 0 ≤ x5 then (if x5 < (x1.length : Int) then (if x92 < (((rd_T50 x1 x5).f4).length : Int) then (if ((rd_T63 x90 x92).f0) = ((rd_T63 ((rd_T50 x1 x5).f4) x92).f0) then (if ((rd_T63 x90 x92).f1) = ((rd_T63 ((rd_T50 x1 x5).f4) x92).f1) then (if ((rd_T63 x90 x92).f2) = ((rd_T63 ((rd_T50 x1 x5).f4) x92).f2) then (if ((rd_T63 x90 x92).f3) = ((rd_T63 ((rd_T50 x1 x5).f4) x92).f3) then ((fluxionref29_Equal.f k ((rd_T63 x90 x92).f4.f0) ((rd_T63 x90 x92).f4.f1) ((rd_T63 x90 x92).f4.f2) ((rd_T63 x90 x92).f4.f3) ((rd_T63 ((rd_T50 x1 x5).f4) x92).f4.f0) ((rd_T63 ((rd_T50 x1 x5).f4) x92).f4.f1) ((rd_T63 ((rd_T50 x1 x5).f4) x92).f4.f2) ((rd_T63 ((rd_T50 x1 x5).f4) x92).f4.f3)).bind fun t198 => (if t198 = true then (fluxionref29_Same.l1 k x0 x1 x5 x15 x16 x90 x91 (wrap64 (x92 + 1))) else (some false))) else (some false)) else (some false)) else (some false)) else (some false)) else (none)) else (none)) else (none)) else (none)) else (none)) else (fluxionref29_Same.l0 k x0 x1 x15 (wrap64 (x16 + 1)))
end
def fluxionref29_Same.f (k : Nat) (l0 : List (S50)) (l1 : List (S50)) : Option (Bool) := if (l0.length : Int) = (l1.length : Int) then (fluxionref29_Same.l0 k l0 l1 (l0.length : Int) 0) else (some false)
theorem fluxionref29_Same.mono_l : ∀ k, (∀ y0 y1 y2 y3, LeO (fluxionref29_Same.l0 k y0 y1 y2 y3) (fluxionref29_Same.l0 (k + 1) y0 y1 y2 y3)) ∧ (∀ y0 y1 y2 y3 y4 y5, LeO (fluxionref29_Same.j1 k y0 y1 y2 y3 y4 y5) (fluxionref29_Same.j1 (k + 1) y0 y1 y2 y3 y4 y5)) ∧ (∀ y0 y1 y2 y3 y4 y5 y6 y7, LeO (fluxionref29_Same.l1 k y0 y1 y2 y3 y4 y5 y6 y7) (fluxionref29_Same.l1 (k + 1) y0 y1 y2 y3 y4 y5 y6 y7))
 | 0 => ⟨fun _ _ _ _ r h => by simp [fluxionref29_Same.l0] at h, fun _ _ _ _ _ _ r h => by simp [fluxionref29_Same.j1] at h, fun _ _ _ _ _ _ _ _ r h => by simp [fluxionref29_Same.l1] at h⟩
 | k + 1 => by
  obtain ⟨ih0, ih1, ih2⟩ := fluxionref29_Same.mono_l k
  refine ⟨?_, ?_, ?_⟩
  ·intro y0 y1 y2 y3
   unfold fluxionref29_Same.l0
   repeat' first
   | (with_reducible exact ih0 _ _ _ _)
   | (with_reducible exact ih1 _ _ _ _ _ _)
   | (with_reducible exact ih2 _ _ _ _ _ _ _ _)
   | (with_reducible exact fluxionref29_Equal.mono _ _ _ _ _ _ _ _ _)
   | (with_reducible exact fluxionref29_alike.mono _ _ _)
   | (with_reducible exact LeO.refl _)
   | (with_reducible exact LeO.none _)
   | (with_reducible refine LeO.ite ?_ ?_)
   | (with_reducible refine LeO.bind ?_ (fun _ => ?_))
   | exact ih0 _ _ _ _
   | exact ih1 _ _ _ _ _ _
   | exact ih2 _ _ _ _ _ _ _ _
   | exact fluxionref29_Equal.mono _ _ _ _ _ _ _ _ _
   | exact fluxionref29_alike.mono _ _ _
   | exact LeO.none _
   | refine LeO.ite ?_ ?_
   | refine LeO.bind ?_ (fun _ => ?_)
  ·intro y0 y1 y2 y3 y4 y5
   unfold fluxionref29_Same.j1
   repeat' first
   | (with_reducible exact ih0 _ _ _ _)
   | (with_reducible exact ih1 _ _ _ _ _ _)
   | (with_reducible exact ih2 _ _ _ _ _ _ _ _)
   | (with_reducible exact fluxionref29_Equal.mono _ _ _ _ _ _ _ _ _)
   | (with_reducible exact fluxionref29_alike.mono _ _ _)
   | (with_reducible exact LeO.refl _)
   | (with_reducible exact LeO.none _)
   | (with_reducible refine LeO.ite ?_ ?_)
   | (with_reducible refine LeO.bind ?_ (fun _ => ?_))
   | exact ih0 _ _ _ _
   | exact ih1 _ _ _ _ _ _
   | exact ih2 _ _ _ _ _ _ _ _
   | exact fluxionref29_Equal.mono _ _ _ _ _ _ _ _ _
   | exact fluxionref29_alike.mono _ _ _
   | exact LeO.none _
   | refine LeO.ite ?_ ?_
   | refine LeO.bind ?_ (fun _ => ?_)
  ·intro y0 y1 y2 y3 y4 y5 y6 y7
   unfold fluxionref29_Same.l1
   repeat' first
   | (with_reducible exact ih0 _ _ _ _)
   | (with_reducible exact ih1 _ _ _ _ _ _)
   | (with_reducible exact ih2 _ _ _ _ _ _ _ _)
   | (with_reducible exact fluxionref29_Equal.mono _ _ _ _ _ _ _ _ _)
   | (with_reducible exact fluxionref29_alike.mono _ _ _)
   | (with_reducible exact LeO.refl _)
   | (with_reducible exact LeO.none _)
   | (with_reducible refine LeO.ite ?_ ?_)
   | (with_reducible refine LeO.bind ?_ (fun _ => ?_))
   | exact ih0 _ _ _ _
   | exact ih1 _ _ _ _ _ _
   | exact ih2 _ _ _ _ _ _ _ _
   | exact fluxionref29_Equal.mono _ _ _ _ _ _ _ _ _
   | exact fluxionref29_alike.mono _ _ _
   | exact LeO.none _
   | refine LeO.ite ?_ ?_
   | refine LeO.bind ?_ (fun _ => ?_)
theorem fluxionref29_Same.mono : ∀ a0 a1 k, LeO (fluxionref29_Same.f k a0 a1) (fluxionref29_Same.f (k + 1) a0 a1) := by
 intro a0 a1 k
 obtain ⟨ih0, ih1, ih2⟩ := fluxionref29_Same.mono_l k
 unfold fluxionref29_Same.f
 repeat' first
   | (with_reducible exact ih0 _ _ _ _)
   | (with_reducible exact ih1 _ _ _ _ _ _)
   | (with_reducible exact ih2 _ _ _ _ _ _ _ _)
   | (with_reducible exact fluxionref29_Equal.mono _ _ _ _ _ _ _ _ _)
   | (with_reducible exact fluxionref29_alike.mono _ _ _)
   | (with_reducible exact LeO.refl _)
   | (with_reducible exact LeO.none _)
   | (with_reducible refine LeO.ite ?_ ?_)
   | (with_reducible refine LeO.bind ?_ (fun _ => ?_))
   | exact ih0 _ _ _ _
   | exact ih1 _ _ _ _ _ _
   | exact ih2 _ _ _ _ _ _ _ _
   | exact fluxionref29_Equal.mono _ _ _ _ _ _ _ _ _
   | exact fluxionref29_alike.mono _ _ _
   | exact LeO.none _
   | refine LeO.ite ?_ ?_
   | refine LeO.bind ?_ (fun _ => ?_)
def fluxionref29_Same.T6 : Bool × List (List Nat × List Nat) := (true, [([], []), ([], []), ([0, 1], [0, 1]), ([2], [2]), ([3], [3]), ([], []), ([], []), ([5, 6], [5, 6]), ([7], [7]), ([8], [8]), ([4, 9], [4, 9]), ([10], [10]), ([11], [11]), ([11], [11]), ([12, 13, 11], [11, 12, 13]), ([14, 11], [11, 14]), ([15, 11], [11, 15]), ([11], [11]), ([11], [11]), ([17, 18, 11], [11, 17, 18]), ([19, 11], [11, 19]), ([20, 11], [11, 20]), ([16, 21, 11], [11, 16, 21]), ([11, 22], [11, 22]), ([23, 11], [23]), ([24], [24]), ([24], [24]), ([25, 26, 24], [24, 25, 26]), ([27, 24], [24, 27]), ([28, 24], [24, 28]), ([24], [24]), ([24], [24]), ([30, 31, 24], [24, 30, 31]), ([32, 24], [24, 32]), ([33, 24], [24, 33]), ([29, 34, 24, 24], [24, 29, 34]), ([35, 24], [24, 35]), ([24, 36], [24, 36]), ([37, 35], [37]), ([38], [38]), ([38], [38]), ([39, 40, 38], [38, 39, 40]), ([41, 38], [38, 41]), ([42, 38], [38, 42]), ([38], [38]), ([38], [38]), ([44, 45, 38], [38, 44, 45]), ([46, 38], [38, 46]), ([47, 38], [38, 47]), ([43, 48, 38, 38], [38, 43, 48]), ([49, 38], [38, 49]), ([38, 50], [38, 50]), ([51, 49], [51]), ([52], [52]), ([52], [52]), ([53, 54, 52], [52, 53, 54]), ([55, 52], [52, 55]), ([56, 52], [52, 56]), ([57, 52], [52, 57]), ([52], [52]), ([52], [52]), ([59, 60, 52], [52, 59, 60]), ([61, 52], [52, 61]), ([62, 52], [52, 62]), ([63, 52], [52, 63]), ([58, 64, 52], [52, 58, 64]), ([52, 65], [52, 65])])
def fluxionref29_Same.B6 : List Nat := [0, 0, 3, 7, 15, 0, 0, 96, 224, 480, 1023, 2047, 4095, 4095, 16383, 32767, 65535, 4095, 4095, 397311, 921599, 1970175, 4194303, 8388607, 16777215, 33554431, 33554431, 134217727, 268435455, 536870911, 33554431, 33554431, 3254779903, 7549747199, 16139681791, 34359738367, 68719476735, 137438953471, 274877906943, 549755813887, 549755813887, 2199023255551, 4398046511103, 8796093022207, 549755813887, 549755813887, 53326313947135, 123695058124799, 264432546480127, 562949953421311, 1125899906842623, 2251799813685247, 4503599627370495, 9007199254740991, 9007199254740991, 36028797018963967, 72057594037927935, 144115188075855871, 288230376151711743, 9007199254740991, 9007199254740991, 1738389456165011455, 4044232465378705407, 8655918483806093311, 17879290520660869119, 36893488147419103231, 73786976294838206463]
theorem fluxionref29_Same.tab6 : rtab .any (opsOf Tryz.f15 6) = fluxionref29_Same.T6 := by kernel_rfl
theorem fluxionref29_Same.bits6 : waitsOk fluxionref29_Same.T6.2 fluxionref29_Same.B6 = true := by kernel_rfl
set_option maxHeartbeats 8000000 in
set_option maxRecDepth 100000 in
theorem fluxionref29_Same.calls (k : Nat) (A0 : Option Addr) (c0 : Nat) (l0 : List (S50)) (A1 : Option Addr) (c1 : Nat) (l1 : List (S50)) (r : Bool) (w : World) (hr0 : Kd.C k50 w A0 l0.length l0) (hc0 : l0.length ≤ c0) (hr1 : Kd.C k50 w A1 l1.length l1) (hc1 : l1.length ≤ c1) (h : fluxionref29_Same.f k l0 l1 = some r) :
  Calls Tryz.prog 15 #[.slice A0 l0.length c0, .slice A1 l1.length c1] w fun e w' => e = .returned (.bool r) ∧ Below w.heap.size w w' := by
 have hu63 := Tryz.underlying63
 have hu61 := Tryz.underlying61
 have HR0 := Aside0.mk hr0
 have HC0 := Aside0.mk hc0
 clear hr0 hc0
 have HR1 := Aside0.mk hr1
 have HC1 := Aside0.mk hc1
 clear hr1 hc1
 have HB := Aside0.mk (Below.refl w.heap.size w)
 have H : (if (l0.length : Int) = (l1.length : Int) then (fluxionref29_Same.l0 k l0 l1 (l0.length : Int) 0) else (some false)) = some r := h
 clear h
 by_cases c3 : (l0.length : Int) = (l1.length : Int)
 ·rw [if_pos c3] at H
  have c3b0 : ((l0.length : Int) == (l1.length : Int)) = true := beq_iff_eq.mpr c3
  have c3b1 : ((l0.length : Int) != (l1.length : Int)) = false := bne_eq_false_iff_eq.mpr c3
  have c3b2 : (l0.length == l1.length) = true := by first | simpa using c3 | (simp at c3 ⊢; omega)
  clear c3
  have H' := Aside0.mk H
  clear H
  go_enter Tryz.func15, Tryz.ntmps15
  go_wp2
  go_loopg [16] k (fun kq v16 w' => ∃ (x16_1 : Int), v16 = .int .i64 x16_1 ∧ Aside0 (fluxionref29_Same.l0 kq l0 l1 (l0.length : Int) x16_1 = some r) ∧ Aside0 (kq ≤ k) ∧ Aside0 (Below w.heap.size w w'))
  case atStart => exact ⟨(0), rs, H', ⟨Nat.le_refl _⟩, ⟨bl HB⟩⟩
  case round =>
   clear H'
   (try clear c1); (try clear p2); (try clear c3); (try clear c3b0); (try clear c3b1); (try clear c3b2)
   obtain ⟨x16_1, rfl, HA, HK1, HB⟩ := hrel
   cases gk with
   | zero => exact absurd HA.out (by simp [fluxionref29_Same.l0])
   | succ k1 =>
    have H := HA.out
    clear HA
    simp only [fluxionref29_Same.l0] at H
    by_cases c4 : x16_1 < (l0.length : Int)
    ·rw [if_pos c4] at H
     have c4b0 : decide (x16_1 < (l0.length : Int)) = true := decide_eq_true c4
     clear c4
     have HC5 := Aside0.mk H
     clear H
     go_upto_region 6 with (fail)
     go_cut [85] (fun v85 wc => ∃ (kq : Nat) (x85_4 : Bool), v85 = .bool x85_4 ∧ Aside0 (fluxionref29_Same.j1 kq l0 l1 x16_1 (l0.length : Int) x16_1 x85_4 = some r) ∧ Aside0 (kq ≤ k1) ∧ Aside0 (Below w.heap.size w wc))
     case first =>
      have H := HC5.out
      clear HC5
      by_cases c6 : 0 ≤ x16_1
      ·rw [if_pos c6] at H
       have c6b0 : decide (0 ≤ x16_1) = true := decide_eq_true c6
       clear c6
       (first | rw [c6b0] | (simp only [i64_w, i32_w]; rw [c6b0]) | skip)
       by_cases c7 : x16_1 < (l0.length : Int)
       ·rw [if_pos c7] at H
        have c7b0 : decide (x16_1 < (l0.length : Int)) = true := decide_eq_true c7
        clear c7
        by_cases c8 : x16_1 < (l1.length : Int)
        ·rw [if_pos c8] at H
         have c8b0 : decide (x16_1 < (l1.length : Int)) = true := decide_eq_true c8
         clear c8
         by_cases c9 : ((rd_T50 l0 x16_1).f0).toList = ((rd_T50 l1 x16_1).f0).toList
         ·rw [if_pos c9] at H
          have c9b0 : (((rd_T50 l0 x16_1).f0).toList == ((rd_T50 l1 x16_1).f0).toList) = true := beq_iff_eq.mpr c9
          have c9b1 : (((rd_T50 l0 x16_1).f0).toList != ((rd_T50 l1 x16_1).f0).toList) = false := bne_eq_false_iff_eq.mpr c9
          clear c9
          by_cases c10 : ((rd_T50 l0 x16_1).f3) = ((rd_T50 l1 x16_1).f3)
          ·rw [if_pos c10] at H
           have c10b0 : (((rd_T50 l0 x16_1).f3) == ((rd_T50 l1 x16_1).f3)) = true := beq_iff_eq.mpr c10
           have c10b1 : (((rd_T50 l0 x16_1).f3) != ((rd_T50 l1 x16_1).f3)) = false := bne_eq_false_iff_eq.mpr c10
           clear c10
           replace H := Option.bind_eq_some_iff.mp H
           obtain ⟨t186, A110, H⟩ := H
           (try dsimp only at H)
           have A11 := Aside0.mk A110
           clear A110
           by_cases c12 : t186 = true
           ·subst c12
            have H1 : ((fluxionref29_alike.f k1 ((rd_T50 l0 x16_1).f2) ((rd_T50 l1 x16_1).f2)).bind fun t189 => (if t189 = true then (fluxionref29_Same.j1 k1 l0 l1 x16_1 (l0.length : Int) x16_1 ((((rd_T50 l0 x16_1).f4).length : Int) != (((rd_T50 l1 x16_1).f4).length : Int))) else (fluxionref29_Same.j1 k1 l0 l1 x16_1 (l0.length : Int) x16_1 true))) = some r := by rw [if_pos rfl] at H; exact H
            clear H
            have H := H1
            clear H1
            replace H := Option.bind_eq_some_iff.mp H
            obtain ⟨t189, A130, H⟩ := H
            (try dsimp only at H)
            have A13 := Aside0.mk A130
            clear A130
            by_cases c14 : t189 = true
            ·subst c14
             have H1 : (fluxionref29_Same.j1 k1 l0 l1 x16_1 (l0.length : Int) x16_1 ((((rd_T50 l0 x16_1).f4).length : Int) != (((rd_T50 l1 x16_1).f4).length : Int))) = some r := by rw [if_pos rfl] at H; exact H
             clear H
             have H := H1
             clear H1
             have H' := Aside0.mk H
             clear H
             try go_wp2
             have n0_ := Aside0.mk (below_drew1 HB.out)
             clear HB
             have HB := n0_
             clear n0_
             have p180 : 0 ≤ (x16_1 : Int) := oa
             have q180 : x16_1 < (l0.length : Int) := oa
             obtain ⟨ad180, A180_1, c180_1, A180_2, c180_2, A180_4, c180_4, e180, hx180_0, hx180_1, hx180_2, hx180_3, hx180_4, hl180_1, hi180_1, hl180_2, hi180_2, hl180_4, hi180_4⟩ := at_T50 HR0.out x16_1 p180 q180
             have hw180_4 := hx180_4
             have hw180_3 := hx180_3
             have hw180_2 := hx180_2
             have hw180_1 := hx180_1
             have hw180_0 := hx180_0
             cases e180
             replace hx180_0 := xb HB hx180_0
             replace hx180_1 := xb HB hx180_1
             replace hx180_2 := xb HB hx180_2
             replace hx180_3 := xb HB hx180_3
             replace hx180_4 := xb HB hx180_4
             have HR180_1 := Aside0.mk hi180_1
             have HC180_1 := Aside0.mk hl180_1
             clear hi180_1 hl180_1
             have HR180_2 := Aside0.mk hi180_2
             have HC180_2 := Aside0.mk hl180_2
             clear hi180_2 hl180_2
             have HR180_4 := Aside0.mk hi180_4
             have HC180_4 := Aside0.mk hl180_4
             clear hi180_4 hl180_4
             replace p180 := eq_true p180
             replace q180 := eq_true q180
             have p181 : 0 ≤ (x16_1 : Int) := oa
             have q181 : x16_1 < (l1.length : Int) := oa
             obtain ⟨ad181, A181_1, c181_1, A181_2, c181_2, A181_4, c181_4, e181, hx181_0, hx181_1, hx181_2, hx181_3, hx181_4, hl181_1, hi181_1, hl181_2, hi181_2, hl181_4, hi181_4⟩ := at_T50 HR1.out x16_1 p181 q181
             have hw181_4 := hx181_4
             have hw181_3 := hx181_3
             have hw181_2 := hx181_2
             have hw181_1 := hx181_1
             have hw181_0 := hx181_0
             cases e181
             replace hx181_0 := xb HB hx181_0
             replace hx181_1 := xb HB hx181_1
             replace hx181_2 := xb HB hx181_2
             replace hx181_3 := xb HB hx181_3
             replace hx181_4 := xb HB hx181_4
             have HR181_1 := Aside0.mk hi181_1
             have HC181_1 := Aside0.mk hl181_1
             clear hi181_1 hl181_1
             have HR181_2 := Aside0.mk hi181_2
             have HC181_2 := Aside0.mk hl181_2
             clear hi181_2 hl181_2
             have HR181_4 := Aside0.mk hi181_4
             have HC181_4 := Aside0.mk hl181_4
             clear hi181_4 hl181_4
             replace p181 := eq_true p181
             replace q181 := eq_true q181
             have p182 : 0 ≤ (x16_1 : Int) := oa
             have q182 : x16_1 < (l0.length : Int) := oa
             obtain ⟨ad182, A182_1, c182_1, A182_2, c182_2, A182_4, c182_4, e182, hx182_0, hx182_1, hx182_2, hx182_3, hx182_4, hl182_1, hi182_1, hl182_2, hi182_2, hl182_4, hi182_4⟩ := at_T50 HR0.out x16_1 p182 q182
             have hw182_4 := hx182_4
             have hw182_3 := hx182_3
             have hw182_2 := hx182_2
             have hw182_1 := hx182_1
             have hw182_0 := hx182_0
             obtain rfl : ad180 = ad182 := (by injection e182)
             have q182_1 := Option.some.inj (hw182_1.symm.trans hw180_1)
             have q182_2 := Option.some.inj (hw182_2.symm.trans hw180_2)
             have q182_4 := Option.some.inj (hw182_4.symm.trans hw180_4)
             replace hx182_0 := xb HB hx182_0
             replace hx182_1 := xb HB hx182_1
             replace hx182_2 := xb HB hx182_2
             replace hx182_3 := xb HB hx182_3
             replace hx182_4 := xb HB hx182_4
             have HR182_1 := Aside0.mk hi182_1
             have HC182_1 := Aside0.mk hl182_1
             clear hi182_1 hl182_1
             have HR182_2 := Aside0.mk hi182_2
             have HC182_2 := Aside0.mk hl182_2
             clear hi182_2 hl182_2
             have HR182_4 := Aside0.mk hi182_4
             have HC182_4 := Aside0.mk hl182_4
             clear hi182_4 hl182_4
             replace p182 := eq_true p182
             replace q182 := eq_true q182
             have ea_ := Option.some.inj (hx180_1.symm.trans hx182_1)
             injection ea_ with ea_ en_ ec_
             subst ea_
             subst ec_
             clear en_
             have ea_ := Option.some.inj (hx180_2.symm.trans hx182_2)
             injection ea_ with ea_ en_ ec_
             subst ea_
             subst ec_
             clear en_
             have ea_ := Option.some.inj (hx180_4.symm.trans hx182_4)
             injection ea_ with ea_ en_ ec_
             subst ea_
             subst ec_
             clear en_
             have p183 : 0 ≤ (x16_1 : Int) := oa
             have q183 : x16_1 < (l1.length : Int) := oa
             obtain ⟨ad183, A183_1, c183_1, A183_2, c183_2, A183_4, c183_4, e183, hx183_0, hx183_1, hx183_2, hx183_3, hx183_4, hl183_1, hi183_1, hl183_2, hi183_2, hl183_4, hi183_4⟩ := at_T50 HR1.out x16_1 p183 q183
             have hw183_4 := hx183_4
             have hw183_3 := hx183_3
             have hw183_2 := hx183_2
             have hw183_1 := hx183_1
             have hw183_0 := hx183_0
             obtain rfl : ad181 = ad183 := (by injection e183)
             have q183_1 := Option.some.inj (hw183_1.symm.trans hw181_1)
             have q183_2 := Option.some.inj (hw183_2.symm.trans hw181_2)
             have q183_4 := Option.some.inj (hw183_4.symm.trans hw181_4)
             replace hx183_0 := xb HB hx183_0
             replace hx183_1 := xb HB hx183_1
             replace hx183_2 := xb HB hx183_2
             replace hx183_3 := xb HB hx183_3
             replace hx183_4 := xb HB hx183_4
             have HR183_1 := Aside0.mk hi183_1
             have HC183_1 := Aside0.mk hl183_1
             clear hi183_1 hl183_1
             have HR183_2 := Aside0.mk hi183_2
             have HC183_2 := Aside0.mk hl183_2
             clear hi183_2 hl183_2
             have HR183_4 := Aside0.mk hi183_4
             have HC183_4 := Aside0.mk hl183_4
             clear hi183_4 hl183_4
             replace p183 := eq_true p183
             replace q183 := eq_true q183
             have ea_ := Option.some.inj (hx181_1.symm.trans hx183_1)
             injection ea_ with ea_ en_ ec_
             subst ea_
             subst ec_
             clear en_
             have ea_ := Option.some.inj (hx181_2.symm.trans hx183_2)
             injection ea_ with ea_ en_ ec_
             subst ea_
             subst ec_
             clear en_
             have ea_ := Option.some.inj (hx181_4.symm.trans hx183_4)
             injection ea_ with ea_ en_ ec_
             subst ea_
             subst ec_
             clear en_
             have p184 : 0 ≤ (x16_1 : Int) := oa
             have q184 : x16_1 < (l0.length : Int) := oa
             obtain ⟨ad184, A184_1, c184_1, A184_2, c184_2, A184_4, c184_4, e184, hx184_0, hx184_1, hx184_2, hx184_3, hx184_4, hl184_1, hi184_1, hl184_2, hi184_2, hl184_4, hi184_4⟩ := at_T50 HR0.out x16_1 p184 q184
             have hw184_4 := hx184_4
             have hw184_3 := hx184_3
             have hw184_2 := hx184_2
             have hw184_1 := hx184_1
             have hw184_0 := hx184_0
             obtain rfl : ad180 = ad184 := (by injection e184)
             have q184_1 := Option.some.inj (hw184_1.symm.trans hw180_1)
             have q184_2 := Option.some.inj (hw184_2.symm.trans hw180_2)
             have q184_4 := Option.some.inj (hw184_4.symm.trans hw180_4)
             replace hx184_0 := xb HB hx184_0
             replace hx184_1 := xb HB hx184_1
             replace hx184_2 := xb HB hx184_2
             replace hx184_3 := xb HB hx184_3
             replace hx184_4 := xb HB hx184_4
             have HR184_1 := Aside0.mk hi184_1
             have HC184_1 := Aside0.mk hl184_1
             clear hi184_1 hl184_1
             have HR184_2 := Aside0.mk hi184_2
             have HC184_2 := Aside0.mk hl184_2
             clear hi184_2 hl184_2
             have HR184_4 := Aside0.mk hi184_4
             have HC184_4 := Aside0.mk hl184_4
             clear hi184_4 hl184_4
             replace p184 := eq_true p184
             replace q184 := eq_true q184
             have ea_ := Option.some.inj (hx180_1.symm.trans hx184_1)
             injection ea_ with ea_ en_ ec_
             subst ea_
             subst ec_
             clear en_
             have ea_ := Option.some.inj (hx180_2.symm.trans hx184_2)
             injection ea_ with ea_ en_ ec_
             subst ea_
             subst ec_
             clear en_
             have ea_ := Option.some.inj (hx180_4.symm.trans hx184_4)
             injection ea_ with ea_ en_ ec_
             subst ea_
             subst ec_
             clear en_
             have p185 : 0 ≤ (x16_1 : Int) := oa
             have q185 : x16_1 < (l1.length : Int) := oa
             obtain ⟨ad185, A185_1, c185_1, A185_2, c185_2, A185_4, c185_4, e185, hx185_0, hx185_1, hx185_2, hx185_3, hx185_4, hl185_1, hi185_1, hl185_2, hi185_2, hl185_4, hi185_4⟩ := at_T50 HR1.out x16_1 p185 q185
             have hw185_4 := hx185_4
             have hw185_3 := hx185_3
             have hw185_2 := hx185_2
             have hw185_1 := hx185_1
             have hw185_0 := hx185_0
             obtain rfl : ad181 = ad185 := (by injection e185)
             have q185_1 := Option.some.inj (hw185_1.symm.trans hw181_1)
             have q185_2 := Option.some.inj (hw185_2.symm.trans hw181_2)
             have q185_4 := Option.some.inj (hw185_4.symm.trans hw181_4)
             replace hx185_0 := xb HB hx185_0
             replace hx185_1 := xb HB hx185_1
             replace hx185_2 := xb HB hx185_2
             replace hx185_3 := xb HB hx185_3
             replace hx185_4 := xb HB hx185_4
             have HR185_1 := Aside0.mk hi185_1
             have HC185_1 := Aside0.mk hl185_1
             clear hi185_1 hl185_1
             have HR185_2 := Aside0.mk hi185_2
             have HC185_2 := Aside0.mk hl185_2
             clear hi185_2 hl185_2
             have HR185_4 := Aside0.mk hi185_4
             have HC185_4 := Aside0.mk hl185_4
             clear hi185_4 hl185_4
             replace p185 := eq_true p185
             replace q185 := eq_true q185
             have ea_ := Option.some.inj (hx181_1.symm.trans hx185_1)
             injection ea_ with ea_ en_ ec_
             subst ea_
             subst ec_
             clear en_
             have ea_ := Option.some.inj (hx181_2.symm.trans hx185_2)
             injection ea_ with ea_ en_ ec_
             subst ea_
             subst ec_
             clear en_
             have ea_ := Option.some.inj (hx181_4.symm.trans hx185_4)
             injection ea_ with ea_ en_ ec_
             subst ea_
             subst ec_
             clear en_
             have p187 : 0 ≤ (x16_1 : Int) := oa
             have q187 : x16_1 < (l0.length : Int) := oa
             obtain ⟨ad187, A187_1, c187_1, A187_2, c187_2, A187_4, c187_4, e187, hx187_0, hx187_1, hx187_2, hx187_3, hx187_4, hl187_1, hi187_1, hl187_2, hi187_2, hl187_4, hi187_4⟩ := at_T50 HR0.out x16_1 p187 q187
             have hw187_4 := hx187_4
             have hw187_3 := hx187_3
             have hw187_2 := hx187_2
             have hw187_1 := hx187_1
             have hw187_0 := hx187_0
             obtain rfl : ad180 = ad187 := (by injection e187)
             have q187_1 := Option.some.inj (hw187_1.symm.trans hw180_1)
             have q187_2 := Option.some.inj (hw187_2.symm.trans hw180_2)
             have q187_4 := Option.some.inj (hw187_4.symm.trans hw180_4)
             replace hx187_0 := xb HB hx187_0
             replace hx187_1 := xb HB hx187_1
             replace hx187_2 := xb HB hx187_2
             replace hx187_3 := xb HB hx187_3
             replace hx187_4 := xb HB hx187_4
             have HR187_1 := Aside0.mk hi187_1
             have HC187_1 := Aside0.mk hl187_1
             clear hi187_1 hl187_1
             have HR187_2 := Aside0.mk hi187_2
             have HC187_2 := Aside0.mk hl187_2
             clear hi187_2 hl187_2
             have HR187_4 := Aside0.mk hi187_4
             have HC187_4 := Aside0.mk hl187_4
             clear hi187_4 hl187_4
             replace p187 := eq_true p187
             replace q187 := eq_true q187
             have p188 : 0 ≤ (x16_1 : Int) := oa
             have q188 : x16_1 < (l1.length : Int) := oa
             obtain ⟨ad188, A188_1, c188_1, A188_2, c188_2, A188_4, c188_4, e188, hx188_0, hx188_1, hx188_2, hx188_3, hx188_4, hl188_1, hi188_1, hl188_2, hi188_2, hl188_4, hi188_4⟩ := at_T50 HR1.out x16_1 p188 q188
             have hw188_4 := hx188_4
             have hw188_3 := hx188_3
             have hw188_2 := hx188_2
             have hw188_1 := hx188_1
             have hw188_0 := hx188_0
             obtain rfl : ad181 = ad188 := (by injection e188)
             have q188_1 := Option.some.inj (hw188_1.symm.trans hw181_1)
             have q188_2 := Option.some.inj (hw188_2.symm.trans hw181_2)
             have q188_4 := Option.some.inj (hw188_4.symm.trans hw181_4)
             replace hx188_0 := xb HB hx188_0
             replace hx188_1 := xb HB hx188_1
             replace hx188_2 := xb HB hx188_2
             replace hx188_3 := xb HB hx188_3
             replace hx188_4 := xb HB hx188_4
             have HR188_1 := Aside0.mk hi188_1
             have HC188_1 := Aside0.mk hl188_1
             clear hi188_1 hl188_1
             have HR188_2 := Aside0.mk hi188_2
             have HC188_2 := Aside0.mk hl188_2
             clear hi188_2 hl188_2
             have HR188_4 := Aside0.mk hi188_4
             have HC188_4 := Aside0.mk hl188_4
             clear hi188_4 hl188_4
             replace p188 := eq_true p188
             replace q188 := eq_true q188
             have p190 : 0 ≤ (x16_1 : Int) := oa
             have q190 : x16_1 < (l0.length : Int) := oa
             obtain ⟨ad190, A190_1, c190_1, A190_2, c190_2, A190_4, c190_4, e190, hx190_0, hx190_1, hx190_2, hx190_3, hx190_4, hl190_1, hi190_1, hl190_2, hi190_2, hl190_4, hi190_4⟩ := at_T50 HR0.out x16_1 p190 q190
             have hw190_4 := hx190_4
             have hw190_3 := hx190_3
             have hw190_2 := hx190_2
             have hw190_1 := hx190_1
             have hw190_0 := hx190_0
             obtain rfl : ad180 = ad190 := (by injection e190)
             have q190_1 := Option.some.inj (hw190_1.symm.trans hw180_1)
             have q190_2 := Option.some.inj (hw190_2.symm.trans hw180_2)
             have q190_4 := Option.some.inj (hw190_4.symm.trans hw180_4)
             replace hx190_0 := xb HB hx190_0
             replace hx190_1 := xb HB hx190_1
             replace hx190_2 := xb HB hx190_2
             replace hx190_3 := xb HB hx190_3
             replace hx190_4 := xb HB hx190_4
             have HR190_1 := Aside0.mk hi190_1
             have HC190_1 := Aside0.mk hl190_1
             clear hi190_1 hl190_1
             have HR190_2 := Aside0.mk hi190_2
             have HC190_2 := Aside0.mk hl190_2
             clear hi190_2 hl190_2
             have HR190_4 := Aside0.mk hi190_4
             have HC190_4 := Aside0.mk hl190_4
             clear hi190_4 hl190_4
             replace p190 := eq_true p190
             replace q190 := eq_true q190
             have p191 : 0 ≤ (x16_1 : Int) := oa
             have q191 : x16_1 < (l1.length : Int) := oa
             obtain ⟨ad191, A191_1, c191_1, A191_2, c191_2, A191_4, c191_4, e191, hx191_0, hx191_1, hx191_2, hx191_3, hx191_4, hl191_1, hi191_1, hl191_2, hi191_2, hl191_4, hi191_4⟩ := at_T50 HR1.out x16_1 p191 q191
             have hw191_4 := hx191_4
             have hw191_3 := hx191_3
             have hw191_2 := hx191_2
             have hw191_1 := hx191_1
             have hw191_0 := hx191_0
             obtain rfl : ad181 = ad191 := (by injection e191)
             have q191_1 := Option.some.inj (hw191_1.symm.trans hw181_1)
             have q191_2 := Option.some.inj (hw191_2.symm.trans hw181_2)
             have q191_4 := Option.some.inj (hw191_4.symm.trans hw181_4)
             replace hx191_0 := xb HB hx191_0
             replace hx191_1 := xb HB hx191_1
             replace hx191_2 := xb HB hx191_2
             replace hx191_3 := xb HB hx191_3
             replace hx191_4 := xb HB hx191_4
             have HR191_1 := Aside0.mk hi191_1
             have HC191_1 := Aside0.mk hl191_1
             clear hi191_1 hl191_1
             have HR191_2 := Aside0.mk hi191_2
             have HC191_2 := Aside0.mk hl191_2
             clear hi191_2 hl191_2
             have HR191_4 := Aside0.mk hi191_4
             have HC191_4 := Aside0.mk hl191_4
             clear hi191_4 hl191_4
             replace p191 := eq_true p191
             replace q191 := eq_true q191
             refine start_ (n := 67) (S := fun w' => w'.cell? (ad180.add ((x16_1).toNat * 5)) = some (.string ((rd_T50 l0 x16_1).f0)) ∧ w'.cell? ⟨(ad180.add ((x16_1).toNat * 5)).block, (ad180.add ((x16_1).toNat * 5)).off + 1, none⟩ = some (.slice A180_1 ((rd_T50 l0 x16_1).f1).length c180_1) ∧ w'.cell? ⟨(ad180.add ((x16_1).toNat * 5)).block, (ad180.add ((x16_1).toNat * 5)).off + 2, none⟩ = some (.slice A180_2 ((rd_T50 l0 x16_1).f2).length c180_2) ∧ w'.cell? ⟨(ad180.add ((x16_1).toNat * 5)).block, (ad180.add ((x16_1).toNat * 5)).off + 3, none⟩ = some (.int .i64 ((rd_T50 l0 x16_1).f3)) ∧ w'.cell? ⟨(ad180.add ((x16_1).toNat * 5)).block, (ad180.add ((x16_1).toNat * 5)).off + 4, none⟩ = some (.slice A180_4 ((rd_T50 l0 x16_1).f4).length c180_4) ∧ w'.cell? (ad181.add ((x16_1).toNat * 5)) = some (.string ((rd_T50 l1 x16_1).f0)) ∧ w'.cell? ⟨(ad181.add ((x16_1).toNat * 5)).block, (ad181.add ((x16_1).toNat * 5)).off + 1, none⟩ = some (.slice A181_1 ((rd_T50 l1 x16_1).f1).length c181_1) ∧ w'.cell? ⟨(ad181.add ((x16_1).toNat * 5)).block, (ad181.add ((x16_1).toNat * 5)).off + 2, none⟩ = some (.slice A181_2 ((rd_T50 l1 x16_1).f2).length c181_2) ∧ w'.cell? ⟨(ad181.add ((x16_1).toNat * 5)).block, (ad181.add ((x16_1).toNat * 5)).off + 3, none⟩ = some (.int .i64 ((rd_T50 l1 x16_1).f3)) ∧ w'.cell? ⟨(ad181.add ((x16_1).toNat * 5)).block, (ad181.add ((x16_1).toNat * 5)).off + 4, none⟩ = some (.slice A181_4 ((rd_T50 l1 x16_1).f4).length c181_4) ∧ w'.cell? (ad180.add ((x16_1).toNat * 5)) = some (.string ((rd_T50 l0 x16_1).f0)) ∧ w'.cell? ⟨(ad180.add ((x16_1).toNat * 5)).block, (ad180.add ((x16_1).toNat * 5)).off + 1, none⟩ = some (.slice A180_1 ((rd_T50 l0 x16_1).f1).length c180_1) ∧ w'.cell? ⟨(ad180.add ((x16_1).toNat * 5)).block, (ad180.add ((x16_1).toNat * 5)).off + 2, none⟩ = some (.slice A180_2 ((rd_T50 l0 x16_1).f2).length c180_2) ∧ w'.cell? ⟨(ad180.add ((x16_1).toNat * 5)).block, (ad180.add ((x16_1).toNat * 5)).off + 3, none⟩ = some (.int .i64 ((rd_T50 l0 x16_1).f3)) ∧ w'.cell? ⟨(ad180.add ((x16_1).toNat * 5)).block, (ad180.add ((x16_1).toNat * 5)).off + 4, none⟩ = some (.slice A180_4 ((rd_T50 l0 x16_1).f4).length c180_4) ∧ w'.cell? (ad181.add ((x16_1).toNat * 5)) = some (.string ((rd_T50 l1 x16_1).f0)) ∧ w'.cell? ⟨(ad181.add ((x16_1).toNat * 5)).block, (ad181.add ((x16_1).toNat * 5)).off + 1, none⟩ = some (.slice A181_1 ((rd_T50 l1 x16_1).f1).length c181_1) ∧ w'.cell? ⟨(ad181.add ((x16_1).toNat * 5)).block, (ad181.add ((x16_1).toNat * 5)).off + 2, none⟩ = some (.slice A181_2 ((rd_T50 l1 x16_1).f2).length c181_2) ∧ w'.cell? ⟨(ad181.add ((x16_1).toNat * 5)).block, (ad181.add ((x16_1).toNat * 5)).off + 3, none⟩ = some (.int .i64 ((rd_T50 l1 x16_1).f3)) ∧ w'.cell? ⟨(ad181.add ((x16_1).toNat * 5)).block, (ad181.add ((x16_1).toNat * 5)).off + 4, none⟩ = some (.slice A181_4 ((rd_T50 l1 x16_1).f4).length c181_4) ∧ w'.cell? (ad180.add ((x16_1).toNat * 5)) = some (.string ((rd_T50 l0 x16_1).f0)) ∧ w'.cell? ⟨(ad180.add ((x16_1).toNat * 5)).block, (ad180.add ((x16_1).toNat * 5)).off + 1, none⟩ = some (.slice A180_1 ((rd_T50 l0 x16_1).f1).length c180_1) ∧ w'.cell? ⟨(ad180.add ((x16_1).toNat * 5)).block, (ad180.add ((x16_1).toNat * 5)).off + 2, none⟩ = some (.slice A180_2 ((rd_T50 l0 x16_1).f2).length c180_2) ∧ w'.cell? ⟨(ad180.add ((x16_1).toNat * 5)).block, (ad180.add ((x16_1).toNat * 5)).off + 3, none⟩ = some (.int .i64 ((rd_T50 l0 x16_1).f3)) ∧ w'.cell? ⟨(ad180.add ((x16_1).toNat * 5)).block, (ad180.add ((x16_1).toNat * 5)).off + 4, none⟩ = some (.slice A180_4 ((rd_T50 l0 x16_1).f4).length c180_4) ∧ w'.cell? (ad181.add ((x16_1).toNat * 5)) = some (.string ((rd_T50 l1 x16_1).f0)) ∧ w'.cell? ⟨(ad181.add ((x16_1).toNat * 5)).block, (ad181.add ((x16_1).toNat * 5)).off + 1, none⟩ = some (.slice A181_1 ((rd_T50 l1 x16_1).f1).length c181_1) ∧ w'.cell? ⟨(ad181.add ((x16_1).toNat * 5)).block, (ad181.add ((x16_1).toNat * 5)).off + 2, none⟩ = some (.slice A181_2 ((rd_T50 l1 x16_1).f2).length c181_2) ∧ w'.cell? ⟨(ad181.add ((x16_1).toNat * 5)).block, (ad181.add ((x16_1).toNat * 5)).off + 3, none⟩ = some (.int .i64 ((rd_T50 l1 x16_1).f3)) ∧ w'.cell? ⟨(ad181.add ((x16_1).toNat * 5)).block, (ad181.add ((x16_1).toNat * 5)).off + 4, none⟩ = some (.slice A181_4 ((rd_T50 l1 x16_1).f4).length c181_4) ∧ w'.cell? (ad180.add ((x16_1).toNat * 5)) = some (.string ((rd_T50 l0 x16_1).f0)) ∧ w'.cell? ⟨(ad180.add ((x16_1).toNat * 5)).block, (ad180.add ((x16_1).toNat * 5)).off + 1, none⟩ = some (.slice A187_1 ((rd_T50 l0 x16_1).f1).length c187_1) ∧ w'.cell? ⟨(ad180.add ((x16_1).toNat * 5)).block, (ad180.add ((x16_1).toNat * 5)).off + 2, none⟩ = some (.slice A187_2 ((rd_T50 l0 x16_1).f2).length c187_2) ∧ w'.cell? ⟨(ad180.add ((x16_1).toNat * 5)).block, (ad180.add ((x16_1).toNat * 5)).off + 3, none⟩ = some (.int .i64 ((rd_T50 l0 x16_1).f3)) ∧ w'.cell? ⟨(ad180.add ((x16_1).toNat * 5)).block, (ad180.add ((x16_1).toNat * 5)).off + 4, none⟩ = some (.slice A187_4 ((rd_T50 l0 x16_1).f4).length c187_4) ∧ w'.cell? (ad181.add ((x16_1).toNat * 5)) = some (.string ((rd_T50 l1 x16_1).f0)) ∧ w'.cell? ⟨(ad181.add ((x16_1).toNat * 5)).block, (ad181.add ((x16_1).toNat * 5)).off + 1, none⟩ = some (.slice A188_1 ((rd_T50 l1 x16_1).f1).length c188_1) ∧ w'.cell? ⟨(ad181.add ((x16_1).toNat * 5)).block, (ad181.add ((x16_1).toNat * 5)).off + 2, none⟩ = some (.slice A188_2 ((rd_T50 l1 x16_1).f2).length c188_2) ∧ w'.cell? ⟨(ad181.add ((x16_1).toNat * 5)).block, (ad181.add ((x16_1).toNat * 5)).off + 3, none⟩ = some (.int .i64 ((rd_T50 l1 x16_1).f3)) ∧ w'.cell? ⟨(ad181.add ((x16_1).toNat * 5)).block, (ad181.add ((x16_1).toNat * 5)).off + 4, none⟩ = some (.slice A188_4 ((rd_T50 l1 x16_1).f4).length c188_4) ∧ w'.cell? (ad180.add ((x16_1).toNat * 5)) = some (.string ((rd_T50 l0 x16_1).f0)) ∧ w'.cell? ⟨(ad180.add ((x16_1).toNat * 5)).block, (ad180.add ((x16_1).toNat * 5)).off + 1, none⟩ = some (.slice A190_1 ((rd_T50 l0 x16_1).f1).length c190_1) ∧ w'.cell? ⟨(ad180.add ((x16_1).toNat * 5)).block, (ad180.add ((x16_1).toNat * 5)).off + 2, none⟩ = some (.slice A190_2 ((rd_T50 l0 x16_1).f2).length c190_2) ∧ w'.cell? ⟨(ad180.add ((x16_1).toNat * 5)).block, (ad180.add ((x16_1).toNat * 5)).off + 3, none⟩ = some (.int .i64 ((rd_T50 l0 x16_1).f3)) ∧ w'.cell? ⟨(ad180.add ((x16_1).toNat * 5)).block, (ad180.add ((x16_1).toNat * 5)).off + 4, none⟩ = some (.slice A190_4 ((rd_T50 l0 x16_1).f4).length c190_4) ∧ w'.cell? (ad181.add ((x16_1).toNat * 5)) = some (.string ((rd_T50 l1 x16_1).f0)) ∧ w'.cell? ⟨(ad181.add ((x16_1).toNat * 5)).block, (ad181.add ((x16_1).toNat * 5)).off + 1, none⟩ = some (.slice A191_1 ((rd_T50 l1 x16_1).f1).length c191_1) ∧ w'.cell? ⟨(ad181.add ((x16_1).toNat * 5)).block, (ad181.add ((x16_1).toNat * 5)).off + 2, none⟩ = some (.slice A191_2 ((rd_T50 l1 x16_1).f2).length c191_2) ∧ w'.cell? ⟨(ad181.add ((x16_1).toNat * 5)).block, (ad181.add ((x16_1).toNat * 5)).off + 3, none⟩ = some (.int .i64 ((rd_T50 l1 x16_1).f3)) ∧ w'.cell? ⟨(ad181.add ((x16_1).toNat * 5)).block, (ad181.add ((x16_1).toNat * 5)).off + 4, none⟩ = some (.slice A191_4 ((rd_T50 l1 x16_1).f4).length c191_4)) (ds := []) (mk 67 0) (by kernel_rfl) rfl (by kernel_rfl) ⟨(xb HB hw180_0), (xb HB hw180_1), (xb HB hw180_2), (xb HB hw180_3), (xb HB hw180_4), (xb HB hw181_0), (xb HB hw181_1), (xb HB hw181_2), (xb HB hw181_3), (xb HB hw181_4), (xb HB hw182_0), (xb HB hw182_1), (xb HB hw182_2), (xb HB hw182_3), (xb HB hw182_4), (xb HB hw183_0), (xb HB hw183_1), (xb HB hw183_2), (xb HB hw183_3), (xb HB hw183_4), (xb HB hw184_0), (xb HB hw184_1), (xb HB hw184_2), (xb HB hw184_3), (xb HB hw184_4), (xb HB hw185_0), (xb HB hw185_1), (xb HB hw185_2), (xb HB hw185_3), (xb HB hw185_4), (xb HB hw187_0), (xb HB hw187_1), (xb HB hw187_2), (xb HB hw187_3), (xb HB hw187_4), (xb HB hw188_0), (xb HB hw188_1), (xb HB hw188_2), (xb HB hw188_3), (xb HB hw188_4), (xb HB hw190_0), (xb HB hw190_1), (xb HB hw190_2), (xb HB hw190_3), (xb HB hw190_4), (xb HB hw191_0), (xb HB hw191_1), (xb HB hw191_2), (xb HB hw191_3), (xb HB hw191_4)⟩ (fun hHeld => ?_); refine with_tabW fluxionref29_Same.tab6 fluxionref29_Same.bits6 (fun HT_ HW_ => ?_)
             generalize wr.drew = w15 at HB HR180_1 HR180_2 HR180_4 HR181_1 HR181_2 HR181_4 HR182_1 HR182_2 HR182_4 HR183_1 HR183_2 HR183_4 HR184_1 HR184_2 HR184_4 HR185_1 HR185_2 HR185_4 HR187_1 HR187_2 HR187_4 HR188_1 HR188_2 HR188_4 HR190_1 HR190_2 HR190_4 HR191_1 HR191_2 HR191_4 hx180_0 hx180_1 hx180_2 hx180_3 hx180_4 hx181_0 hx181_1 hx181_2 hx181_3 hx181_4 hx182_0 hx182_1 hx182_2 hx182_3 hx182_4 hx183_0 hx183_1 hx183_2 hx183_3 hx183_4 hx184_0 hx184_1 hx184_2 hx184_3 hx184_4 hx185_0 hx185_1 hx185_2 hx185_3 hx185_4 hx187_0 hx187_1 hx187_2 hx187_3 hx187_4 hx188_0 hx188_1 hx188_2 hx188_3 hx188_4 hx190_0 hx190_1 hx190_2 hx190_3 hx190_4 hx191_0 hx191_1 hx191_2 hx191_3 hx191_4 hHeld ⊢
             refine pu 0 19 (mk 67 1) (any_of HT_.out (by kernel_rfl)) ?_
             refine pu 1 20 (mk 67 3) (any_of HT_.out (by kernel_rfl)) ?_
             refine pu 2 21 (mk 67 7) (any_of HT_.out (by kernel_rfl)) ?_
             refine pu 3 22 (mk 67 15) (any_of HT_.out (by kernel_rfl)) ?_
             refine pu 5 24 (mk 67 47) (any_of HT_.out (by kernel_rfl)) ?_
             refine pu 6 25 (mk 67 111) (any_of HT_.out (by kernel_rfl)) ?_
             refine pu 7 26 (mk 67 239) (any_of HT_.out (by kernel_rfl)) ?_
             refine pu 8 27 (mk 67 495) (any_of HT_.out (by kernel_rfl)) ?_
             refine tk 4 23 (mk 67 511) (take_ofW HT_.out HW_.out (by kernel_rfl)) hHeld ?_
             refine tk 9 28 (mk 67 1023) (take_ofW HT_.out HW_.out (by kernel_rfl)) hHeld ?_
             refine pu 10 29 (mk 67 2047) (any_of HT_.out (by kernel_rfl)) ?_
             refine pu 11 30 (mk 67 4095) (any_of HT_.out (by kernel_rfl)) ?_
             refine pu 12 31 (mk 67 8191) (any_of HT_.out (by kernel_rfl)) ?_
             refine pu 13 32 (mk 67 16383) (any_of HT_.out (by kernel_rfl)) ?_
             refine pu 14 33 (mk 67 32767) (any_of HT_.out (by kernel_rfl)) ?_
             refine pu 15 34 (mk 67 65535) (any_of HT_.out (by kernel_rfl)) ?_
             refine pu 17 36 (mk 67 196607) (any_of HT_.out (by kernel_rfl)) ?_
             refine pu 18 37 (mk 67 458751) (any_of HT_.out (by kernel_rfl)) ?_
             refine pu 19 38 (mk 67 983039) (any_of HT_.out (by kernel_rfl)) ?_
             refine pu 20 39 (mk 67 2031615) (any_of HT_.out (by kernel_rfl)) ?_
             refine tk 16 35 (mk 67 2097151) (take_ofW HT_.out HW_.out (by kernel_rfl)) hHeld ?_
             refine tk 21 40 (mk 67 4194303) (take_ofW HT_.out HW_.out (by kernel_rfl)) hHeld ?_
             refine pu 22 41 (mk 67 8388607) (any_of HT_.out (by kernel_rfl)) ?_
             refine pu 23 42 (mk 67 16777215) (any_of HT_.out (by kernel_rfl)) ?_
             refine pu 24 43 (mk 67 33554431) (any_of HT_.out (by kernel_rfl)) ?_
             refine pu 25 44 (mk 67 67108863) (any_of HT_.out (by kernel_rfl)) ?_
             refine pu 26 45 (mk 67 134217727) (any_of HT_.out (by kernel_rfl)) ?_
             refine pu 27 46 (mk 67 268435455) (any_of HT_.out (by kernel_rfl)) ?_
             refine pu 28 47 (mk 67 536870911) (any_of HT_.out (by kernel_rfl)) ?_
             refine pu 30 49 (mk 67 1610612735) (any_of HT_.out (by kernel_rfl)) ?_
             refine pu 31 50 (mk 67 3758096383) (any_of HT_.out (by kernel_rfl)) ?_
             refine pu 32 51 (mk 67 8053063679) (any_of HT_.out (by kernel_rfl)) ?_
             refine pu 33 52 (mk 67 16642998271) (any_of HT_.out (by kernel_rfl)) ?_
             refine tk 29 48 (mk 67 17179869183) (take_ofW HT_.out HW_.out (by kernel_rfl)) hHeld ?_
             refine tk 34 53 (mk 67 34359738367) (take_ofW HT_.out HW_.out (by kernel_rfl)) hHeld ?_
             refine one_ (i := 35) (N := some 54) (mk 67 68719476735) rfl rfl (one_of HT_.out (by kernel_rfl)) (by decide) (fun K hK => ?_)
             refine goes_ Tryz.func36 (by kernel_rfl) rfl #[.slice A180_1 ((rd_T50 l0 x16_1).f1).length c180_1, .slice A181_1 ((rd_T50 l1 x16_1).f1).length c181_1] (by rfl) rfl rfl (by (try simp only [List.map_toArray, List.map_cons, List.map_nil]); first | done | rfl | (simp only [List.length_drop, List.length_take]; rfl)) ?_
             with_reducible refine (fluxionref29_alike.calls k1 _ _ ((rd_T50 l0 x16_1).f1) _ _ ((rd_T50 l1 x16_1).f1) true _ ?side1 ?side2 ?side3 ?side4 A11.out).mono ?_
             (case side1 => exact cb HR184_1 HB)
             (case side2 => exact HC184_1.out)
             (case side3 => exact cb HR185_1 HB)
             (case side4 => exact HC185_1.out)
             rintro e w16 ⟨rfl, hb⟩
             refine ⟨_, rfl, ?_⟩
             have n0_ := Aside0.mk (below_step (bl HB) hb)
             clear HB
             have HB := n0_
             clear n0_
             (try clear hb)
             (try clear hb2)
             (try clear hk)
             (try clear hi)
             refine hK.out _ _ ⟨(xb HB hw180_0), (xb HB hw180_1), (xb HB hw180_2), (xb HB hw180_3), (xb HB hw180_4), (xb HB hw181_0), (xb HB hw181_1), (xb HB hw181_2), (xb HB hw181_3), (xb HB hw181_4), (xb HB hw182_0), (xb HB hw182_1), (xb HB hw182_2), (xb HB hw182_3), (xb HB hw182_4), (xb HB hw183_0), (xb HB hw183_1), (xb HB hw183_2), (xb HB hw183_3), (xb HB hw183_4), (xb HB hw184_0), (xb HB hw184_1), (xb HB hw184_2), (xb HB hw184_3), (xb HB hw184_4), (xb HB hw185_0), (xb HB hw185_1), (xb HB hw185_2), (xb HB hw185_3), (xb HB hw185_4), (xb HB hw187_0), (xb HB hw187_1), (xb HB hw187_2), (xb HB hw187_3), (xb HB hw187_4), (xb HB hw188_0), (xb HB hw188_1), (xb HB hw188_2), (xb HB hw188_3), (xb HB hw188_4), (xb HB hw190_0), (xb HB hw190_1), (xb HB hw190_2), (xb HB hw190_3), (xb HB hw190_4), (xb HB hw191_0), (xb HB hw191_1), (xb HB hw191_2), (xb HB hw191_3), (xb HB hw191_4)⟩ (fun hHeld => ?_)
             clear hK K
             refine norm_ (a' := ?_) ?_ ?_
             rotate_left
             ·show Act.put _ (some 54) _ = _
              simp only [Act.put, List.setIfInBounds_toArray, List.set_cons_zero, List.set_cons_succ, i64_w, i32_w]
              rfl
             refine pu 36 55 (mk 67 137438953471) (any_of HT_.out (by kernel_rfl)) ?_
             refine pu 37 56 (mk 67 274877906943) (any_of HT_.out (by kernel_rfl)) ?_
             refine pu 38 57 (mk 67 549755813887) (any_of HT_.out (by kernel_rfl)) ?_
             refine pu 39 58 (mk 67 1099511627775) (any_of HT_.out (by kernel_rfl)) ?_
             refine pu 40 59 (mk 67 2199023255551) (any_of HT_.out (by kernel_rfl)) ?_
             refine pu 41 60 (mk 67 4398046511103) (any_of HT_.out (by kernel_rfl)) ?_
             refine pu 42 61 (mk 67 8796093022207) (any_of HT_.out (by kernel_rfl)) ?_
             refine pu 44 63 (mk 67 26388279066623) (any_of HT_.out (by kernel_rfl)) ?_
             refine pu 45 64 (mk 67 61572651155455) (any_of HT_.out (by kernel_rfl)) ?_
             refine pu 46 65 (mk 67 131941395333119) (any_of HT_.out (by kernel_rfl)) ?_
             refine pu 47 66 (mk 67 272678883688447) (any_of HT_.out (by kernel_rfl)) ?_
             refine tk 43 62 (mk 67 281474976710655) (take_ofW HT_.out HW_.out (by kernel_rfl)) hHeld ?_
             refine tk 48 67 (mk 67 562949953421311) (take_ofW HT_.out HW_.out (by kernel_rfl)) hHeld ?_
             refine one_ (i := 49) (N := some 68) (mk 67 1125899906842623) rfl rfl (one_of HT_.out (by kernel_rfl)) (by decide) (fun K hK => ?_)
             refine goes_ Tryz.func36 (by kernel_rfl) rfl #[.slice A187_2 ((rd_T50 l0 x16_1).f2).length c187_2, .slice A188_2 ((rd_T50 l1 x16_1).f2).length c188_2] (by rfl) rfl rfl (by (try simp only [List.map_toArray, List.map_cons, List.map_nil]); first | done | rfl | (rw [q187_2, q188_2]; rfl) | (simp only [List.length_drop, List.length_take]; rfl)) ?_
             with_reducible refine (fluxionref29_alike.calls k1 _ _ ((rd_T50 l0 x16_1).f2) _ _ ((rd_T50 l1 x16_1).f2) true _ ?side1 ?side2 ?side3 ?side4 A13.out).mono ?_
             (case side1 => exact cb HR187_2 HB)
             (case side2 => exact HC187_2.out)
             (case side3 => exact cb HR188_2 HB)
             (case side4 => exact HC188_2.out)
             rintro e w17 ⟨rfl, hb⟩
             refine ⟨_, rfl, ?_⟩
             have n0_ := Aside0.mk (below_step (bl HB) hb)
             clear HB
             have HB := n0_
             clear n0_
             (try clear hb)
             (try clear hb2)
             (try clear hk)
             (try clear hi)
             refine hK.out _ _ ⟨(xb HB hw180_0), (xb HB hw180_1), (xb HB hw180_2), (xb HB hw180_3), (xb HB hw180_4), (xb HB hw181_0), (xb HB hw181_1), (xb HB hw181_2), (xb HB hw181_3), (xb HB hw181_4), (xb HB hw182_0), (xb HB hw182_1), (xb HB hw182_2), (xb HB hw182_3), (xb HB hw182_4), (xb HB hw183_0), (xb HB hw183_1), (xb HB hw183_2), (xb HB hw183_3), (xb HB hw183_4), (xb HB hw184_0), (xb HB hw184_1), (xb HB hw184_2), (xb HB hw184_3), (xb HB hw184_4), (xb HB hw185_0), (xb HB hw185_1), (xb HB hw185_2), (xb HB hw185_3), (xb HB hw185_4), (xb HB hw187_0), (xb HB hw187_1), (xb HB hw187_2), (xb HB hw187_3), (xb HB hw187_4), (xb HB hw188_0), (xb HB hw188_1), (xb HB hw188_2), (xb HB hw188_3), (xb HB hw188_4), (xb HB hw190_0), (xb HB hw190_1), (xb HB hw190_2), (xb HB hw190_3), (xb HB hw190_4), (xb HB hw191_0), (xb HB hw191_1), (xb HB hw191_2), (xb HB hw191_3), (xb HB hw191_4)⟩ (fun hHeld => ?_)
             clear hK K
             refine norm_ (a' := ?_) ?_ ?_
             rotate_left
             ·show Act.put _ (some 68) _ = _
              simp only [Act.put, List.setIfInBounds_toArray, List.set_cons_zero, List.set_cons_succ, i64_w, i32_w]
              rfl
             refine pu 50 69 (mk 67 2251799813685247) (any_of HT_.out (by kernel_rfl)) ?_
             refine pu 51 70 (mk 67 4503599627370495) (any_of HT_.out (by kernel_rfl)) ?_
             refine pu 52 71 (mk 67 9007199254740991) (any_of HT_.out (by kernel_rfl)) ?_
             refine pu 53 72 (mk 67 18014398509481983) (any_of HT_.out (by kernel_rfl)) ?_
             refine pu 54 73 (mk 67 36028797018963967) (any_of HT_.out (by kernel_rfl)) ?_
             refine pu 55 74 (mk 67 72057594037927935) (any_of HT_.out (by kernel_rfl)) ?_
             refine pu 56 75 (mk 67 144115188075855871) (any_of HT_.out (by kernel_rfl)) ?_
             refine pu 59 78 (mk 67 720575940379279359) (any_of HT_.out (by kernel_rfl)) ?_
             refine pu 60 79 (mk 67 1873497444986126335) (any_of HT_.out (by kernel_rfl)) ?_
             refine pu 61 80 (mk 67 4179340454199820287) (any_of HT_.out (by kernel_rfl)) ?_
             refine pu 62 81 (mk 67 8791026472627208191) (any_of HT_.out (by kernel_rfl)) ?_
             refine tk 57 76 (mk 67 8935141660703064063) (take_ofW HT_.out HW_.out (by kernel_rfl)) hHeld ?_
             refine pu 58 77 (mk 67 9223372036854775807) (any_of HT_.out (by kernel_rfl)) ?_
             refine tk 63 82 (mk 67 18446744073709551615) (take_ofW HT_.out HW_.out (by kernel_rfl)) hHeld ?_
             refine pu 64 83 (mk 67 36893488147419103231) (any_of HT_.out (by kernel_rfl)) ?_
             refine pu 65 84 (mk 67 73786976294838206463) (any_of HT_.out (by kernel_rfl)) ?_
             refine pu 66 85 (mk 67 147573952589676412927) (any_of HT_.out (by kernel_rfl)) ?_
             refine done_ (done_of HT_.out (by kernel_rfl)) ?_
             try go_wp2
             go_meet
             case rel => exact ⟨_, (((((rd_T50 l0 x16_1).f4).length : Int) != (((rd_T50 l1 x16_1).f4).length : Int))), rs, H', ⟨by have := HK1.out; first | omega | exact Nat.le_refl _⟩, ⟨bl HB⟩⟩
            ·replace c14 := Bool.eq_false_iff.mpr c14
             subst c14
             have H1 : (fluxionref29_Same.j1 k1 l0 l1 x16_1 (l0.length : Int) x16_1 true) = some r := by rw [if_neg (show ¬ (false = true) by decide)] at H; exact H
             clear H
             have H := H1
             clear H1
             have H' := Aside0.mk H
             clear H
             try go_wp2
             have n0_ := Aside0.mk (below_drew1 HB.out)
             clear HB
             have HB := n0_
             clear n0_
             have p180 : 0 ≤ (x16_1 : Int) := oa
             have q180 : x16_1 < (l0.length : Int) := oa
             obtain ⟨ad180, A180_1, c180_1, A180_2, c180_2, A180_4, c180_4, e180, hx180_0, hx180_1, hx180_2, hx180_3, hx180_4, hl180_1, hi180_1, hl180_2, hi180_2, hl180_4, hi180_4⟩ := at_T50 HR0.out x16_1 p180 q180
             have hw180_4 := hx180_4
             have hw180_3 := hx180_3
             have hw180_2 := hx180_2
             have hw180_1 := hx180_1
             have hw180_0 := hx180_0
             cases e180
             replace hx180_0 := xb HB hx180_0
             replace hx180_1 := xb HB hx180_1
             replace hx180_2 := xb HB hx180_2
             replace hx180_3 := xb HB hx180_3
             replace hx180_4 := xb HB hx180_4
             have HR180_1 := Aside0.mk hi180_1
             have HC180_1 := Aside0.mk hl180_1
             clear hi180_1 hl180_1
             have HR180_2 := Aside0.mk hi180_2
             have HC180_2 := Aside0.mk hl180_2
             clear hi180_2 hl180_2
             have HR180_4 := Aside0.mk hi180_4
             have HC180_4 := Aside0.mk hl180_4
             clear hi180_4 hl180_4
             replace p180 := eq_true p180
             replace q180 := eq_true q180
             have p181 : 0 ≤ (x16_1 : Int) := oa
             have q181 : x16_1 < (l1.length : Int) := oa
             obtain ⟨ad181, A181_1, c181_1, A181_2, c181_2, A181_4, c181_4, e181, hx181_0, hx181_1, hx181_2, hx181_3, hx181_4, hl181_1, hi181_1, hl181_2, hi181_2, hl181_4, hi181_4⟩ := at_T50 HR1.out x16_1 p181 q181
             have hw181_4 := hx181_4
             have hw181_3 := hx181_3
             have hw181_2 := hx181_2
             have hw181_1 := hx181_1
             have hw181_0 := hx181_0
             cases e181
             replace hx181_0 := xb HB hx181_0
             replace hx181_1 := xb HB hx181_1
             replace hx181_2 := xb HB hx181_2
             replace hx181_3 := xb HB hx181_3
             replace hx181_4 := xb HB hx181_4
             have HR181_1 := Aside0.mk hi181_1
             have HC181_1 := Aside0.mk hl181_1
             clear hi181_1 hl181_1
             have HR181_2 := Aside0.mk hi181_2
             have HC181_2 := Aside0.mk hl181_2
             clear hi181_2 hl181_2
             have HR181_4 := Aside0.mk hi181_4
             have HC181_4 := Aside0.mk hl181_4
             clear hi181_4 hl181_4
             replace p181 := eq_true p181
             replace q181 := eq_true q181
             have p182 : 0 ≤ (x16_1 : Int) := oa
             have q182 : x16_1 < (l0.length : Int) := oa
             obtain ⟨ad182, A182_1, c182_1, A182_2, c182_2, A182_4, c182_4, e182, hx182_0, hx182_1, hx182_2, hx182_3, hx182_4, hl182_1, hi182_1, hl182_2, hi182_2, hl182_4, hi182_4⟩ := at_T50 HR0.out x16_1 p182 q182
             have hw182_4 := hx182_4
             have hw182_3 := hx182_3
             have hw182_2 := hx182_2
             have hw182_1 := hx182_1
             have hw182_0 := hx182_0
             obtain rfl : ad180 = ad182 := (by injection e182)
             have q182_1 := Option.some.inj (hw182_1.symm.trans hw180_1)
             have q182_2 := Option.some.inj (hw182_2.symm.trans hw180_2)
             have q182_4 := Option.some.inj (hw182_4.symm.trans hw180_4)
             replace hx182_0 := xb HB hx182_0
             replace hx182_1 := xb HB hx182_1
             replace hx182_2 := xb HB hx182_2
             replace hx182_3 := xb HB hx182_3
             replace hx182_4 := xb HB hx182_4
             have HR182_1 := Aside0.mk hi182_1
             have HC182_1 := Aside0.mk hl182_1
             clear hi182_1 hl182_1
             have HR182_2 := Aside0.mk hi182_2
             have HC182_2 := Aside0.mk hl182_2
             clear hi182_2 hl182_2
             have HR182_4 := Aside0.mk hi182_4
             have HC182_4 := Aside0.mk hl182_4
             clear hi182_4 hl182_4
             replace p182 := eq_true p182
             replace q182 := eq_true q182
             have ea_ := Option.some.inj (hx180_1.symm.trans hx182_1)
             injection ea_ with ea_ en_ ec_
             subst ea_
             subst ec_
             clear en_
             have ea_ := Option.some.inj (hx180_2.symm.trans hx182_2)
             injection ea_ with ea_ en_ ec_
             subst ea_
             subst ec_
             clear en_
             have ea_ := Option.some.inj (hx180_4.symm.trans hx182_4)
             injection ea_ with ea_ en_ ec_
             subst ea_
             subst ec_
             clear en_
             have p183 : 0 ≤ (x16_1 : Int) := oa
             have q183 : x16_1 < (l1.length : Int) := oa
             obtain ⟨ad183, A183_1, c183_1, A183_2, c183_2, A183_4, c183_4, e183, hx183_0, hx183_1, hx183_2, hx183_3, hx183_4, hl183_1, hi183_1, hl183_2, hi183_2, hl183_4, hi183_4⟩ := at_T50 HR1.out x16_1 p183 q183
             have hw183_4 := hx183_4
             have hw183_3 := hx183_3
             have hw183_2 := hx183_2
             have hw183_1 := hx183_1
             have hw183_0 := hx183_0
             obtain rfl : ad181 = ad183 := (by injection e183)
             have q183_1 := Option.some.inj (hw183_1.symm.trans hw181_1)
             have q183_2 := Option.some.inj (hw183_2.symm.trans hw181_2)
             have q183_4 := Option.some.inj (hw183_4.symm.trans hw181_4)
             replace hx183_0 := xb HB hx183_0
             replace hx183_1 := xb HB hx183_1
             replace hx183_2 := xb HB hx183_2
             replace hx183_3 := xb HB hx183_3
             replace hx183_4 := xb HB hx183_4
             have HR183_1 := Aside0.mk hi183_1
             have HC183_1 := Aside0.mk hl183_1
             clear hi183_1 hl183_1
             have HR183_2 := Aside0.mk hi183_2
             have HC183_2 := Aside0.mk hl183_2
             clear hi183_2 hl183_2
             have HR183_4 := Aside0.mk hi183_4
             have HC183_4 := Aside0.mk hl183_4
             clear hi183_4 hl183_4
             replace p183 := eq_true p183
             replace q183 := eq_true q183
             have ea_ := Option.some.inj (hx181_1.symm.trans hx183_1)
             injection ea_ with ea_ en_ ec_
             subst ea_
             subst ec_
             clear en_
             have ea_ := Option.some.inj (hx181_2.symm.trans hx183_2)
             injection ea_ with ea_ en_ ec_
             subst ea_
             subst ec_
             clear en_
             have ea_ := Option.some.inj (hx181_4.symm.trans hx183_4)
             injection ea_ with ea_ en_ ec_
             subst ea_
             subst ec_
             clear en_
             have p184 : 0 ≤ (x16_1 : Int) := oa
             have q184 : x16_1 < (l0.length : Int) := oa
             obtain ⟨ad184, A184_1, c184_1, A184_2, c184_2, A184_4, c184_4, e184, hx184_0, hx184_1, hx184_2, hx184_3, hx184_4, hl184_1, hi184_1, hl184_2, hi184_2, hl184_4, hi184_4⟩ := at_T50 HR0.out x16_1 p184 q184
             have hw184_4 := hx184_4
             have hw184_3 := hx184_3
             have hw184_2 := hx184_2
             have hw184_1 := hx184_1
             have hw184_0 := hx184_0
             obtain rfl : ad180 = ad184 := (by injection e184)
             have q184_1 := Option.some.inj (hw184_1.symm.trans hw180_1)
             have q184_2 := Option.some.inj (hw184_2.symm.trans hw180_2)
             have q184_4 := Option.some.inj (hw184_4.symm.trans hw180_4)
             replace hx184_0 := xb HB hx184_0
             replace hx184_1 := xb HB hx184_1
             replace hx184_2 := xb HB hx184_2
             replace hx184_3 := xb HB hx184_3
             replace hx184_4 := xb HB hx184_4
             have HR184_1 := Aside0.mk hi184_1
             have HC184_1 := Aside0.mk hl184_1
             clear hi184_1 hl184_1
             have HR184_2 := Aside0.mk hi184_2
             have HC184_2 := Aside0.mk hl184_2
             clear hi184_2 hl184_2
             have HR184_4 := Aside0.mk hi184_4
             have HC184_4 := Aside0.mk hl184_4
             clear hi184_4 hl184_4
             replace p184 := eq_true p184
             replace q184 := eq_true q184
             have ea_ := Option.some.inj (hx180_1.symm.trans hx184_1)
             injection ea_ with ea_ en_ ec_
             subst ea_
             subst ec_
             clear en_
             have ea_ := Option.some.inj (hx180_2.symm.trans hx184_2)
             injection ea_ with ea_ en_ ec_
             subst ea_
             subst ec_
             clear en_
             have ea_ := Option.some.inj (hx180_4.symm.trans hx184_4)
             injection ea_ with ea_ en_ ec_
             subst ea_
             subst ec_
             clear en_
             have p185 : 0 ≤ (x16_1 : Int) := oa
             have q185 : x16_1 < (l1.length : Int) := oa
             obtain ⟨ad185, A185_1, c185_1, A185_2, c185_2, A185_4, c185_4, e185, hx185_0, hx185_1, hx185_2, hx185_3, hx185_4, hl185_1, hi185_1, hl185_2, hi185_2, hl185_4, hi185_4⟩ := at_T50 HR1.out x16_1 p185 q185
             have hw185_4 := hx185_4
             have hw185_3 := hx185_3
             have hw185_2 := hx185_2
             have hw185_1 := hx185_1
             have hw185_0 := hx185_0
             obtain rfl : ad181 = ad185 := (by injection e185)
             have q185_1 := Option.some.inj (hw185_1.symm.trans hw181_1)
             have q185_2 := Option.some.inj (hw185_2.symm.trans hw181_2)
             have q185_4 := Option.some.inj (hw185_4.symm.trans hw181_4)
             replace hx185_0 := xb HB hx185_0
             replace hx185_1 := xb HB hx185_1
             replace hx185_2 := xb HB hx185_2
             replace hx185_3 := xb HB hx185_3
             replace hx185_4 := xb HB hx185_4
             have HR185_1 := Aside0.mk hi185_1
             have HC185_1 := Aside0.mk hl185_1
             clear hi185_1 hl185_1
             have HR185_2 := Aside0.mk hi185_2
             have HC185_2 := Aside0.mk hl185_2
             clear hi185_2 hl185_2
             have HR185_4 := Aside0.mk hi185_4
             have HC185_4 := Aside0.mk hl185_4
             clear hi185_4 hl185_4
             replace p185 := eq_true p185
             replace q185 := eq_true q185
             have ea_ := Option.some.inj (hx181_1.symm.trans hx185_1)
             injection ea_ with ea_ en_ ec_
             subst ea_
             subst ec_
             clear en_
             have ea_ := Option.some.inj (hx181_2.symm.trans hx185_2)
             injection ea_ with ea_ en_ ec_
             subst ea_
             subst ec_
             clear en_
             have ea_ := Option.some.inj (hx181_4.symm.trans hx185_4)
             injection ea_ with ea_ en_ ec_
             subst ea_
             subst ec_
             clear en_
             have p187 : 0 ≤ (x16_1 : Int) := oa
             have q187 : x16_1 < (l0.length : Int) := oa
             obtain ⟨ad187, A187_1, c187_1, A187_2, c187_2, A187_4, c187_4, e187, hx187_0, hx187_1, hx187_2, hx187_3, hx187_4, hl187_1, hi187_1, hl187_2, hi187_2, hl187_4, hi187_4⟩ := at_T50 HR0.out x16_1 p187 q187
             have hw187_4 := hx187_4
             have hw187_3 := hx187_3
             have hw187_2 := hx187_2
             have hw187_1 := hx187_1
             have hw187_0 := hx187_0
             obtain rfl : ad180 = ad187 := (by injection e187)
             have q187_1 := Option.some.inj (hw187_1.symm.trans hw180_1)
             have q187_2 := Option.some.inj (hw187_2.symm.trans hw180_2)
             have q187_4 := Option.some.inj (hw187_4.symm.trans hw180_4)
             replace hx187_0 := xb HB hx187_0
             replace hx187_1 := xb HB hx187_1
             replace hx187_2 := xb HB hx187_2
             replace hx187_3 := xb HB hx187_3
             replace hx187_4 := xb HB hx187_4
             have HR187_1 := Aside0.mk hi187_1
             have HC187_1 := Aside0.mk hl187_1
             clear hi187_1 hl187_1
             have HR187_2 := Aside0.mk hi187_2
             have HC187_2 := Aside0.mk hl187_2
             clear hi187_2 hl187_2
             have HR187_4 := Aside0.mk hi187_4
             have HC187_4 := Aside0.mk hl187_4
             clear hi187_4 hl187_4
             replace p187 := eq_true p187
             replace q187 := eq_true q187
             have p188 : 0 ≤ (x16_1 : Int) := oa
             have q188 : x16_1 < (l1.length : Int) := oa
             obtain ⟨ad188, A188_1, c188_1, A188_2, c188_2, A188_4, c188_4, e188, hx188_0, hx188_1, hx188_2, hx188_3, hx188_4, hl188_1, hi188_1, hl188_2, hi188_2, hl188_4, hi188_4⟩ := at_T50 HR1.out x16_1 p188 q188
             have hw188_4 := hx188_4
             have hw188_3 := hx188_3
             have hw188_2 := hx188_2
             have hw188_1 := hx188_1
             have hw188_0 := hx188_0
             obtain rfl : ad181 = ad188 := (by injection e188)
             have q188_1 := Option.some.inj (hw188_1.symm.trans hw181_1)
             have q188_2 := Option.some.inj (hw188_2.symm.trans hw181_2)
             have q188_4 := Option.some.inj (hw188_4.symm.trans hw181_4)
             replace hx188_0 := xb HB hx188_0
             replace hx188_1 := xb HB hx188_1
             replace hx188_2 := xb HB hx188_2
             replace hx188_3 := xb HB hx188_3
             replace hx188_4 := xb HB hx188_4
             have HR188_1 := Aside0.mk hi188_1
             have HC188_1 := Aside0.mk hl188_1
             clear hi188_1 hl188_1
             have HR188_2 := Aside0.mk hi188_2
             have HC188_2 := Aside0.mk hl188_2
             clear hi188_2 hl188_2
             have HR188_4 := Aside0.mk hi188_4
             have HC188_4 := Aside0.mk hl188_4
             clear hi188_4 hl188_4
             replace p188 := eq_true p188
             replace q188 := eq_true q188
             refine start_ (n := 67) (S := fun w' => w'.cell? (ad180.add ((x16_1).toNat * 5)) = some (.string ((rd_T50 l0 x16_1).f0)) ∧ w'.cell? ⟨(ad180.add ((x16_1).toNat * 5)).block, (ad180.add ((x16_1).toNat * 5)).off + 1, none⟩ = some (.slice A180_1 ((rd_T50 l0 x16_1).f1).length c180_1) ∧ w'.cell? ⟨(ad180.add ((x16_1).toNat * 5)).block, (ad180.add ((x16_1).toNat * 5)).off + 2, none⟩ = some (.slice A180_2 ((rd_T50 l0 x16_1).f2).length c180_2) ∧ w'.cell? ⟨(ad180.add ((x16_1).toNat * 5)).block, (ad180.add ((x16_1).toNat * 5)).off + 3, none⟩ = some (.int .i64 ((rd_T50 l0 x16_1).f3)) ∧ w'.cell? ⟨(ad180.add ((x16_1).toNat * 5)).block, (ad180.add ((x16_1).toNat * 5)).off + 4, none⟩ = some (.slice A180_4 ((rd_T50 l0 x16_1).f4).length c180_4) ∧ w'.cell? (ad181.add ((x16_1).toNat * 5)) = some (.string ((rd_T50 l1 x16_1).f0)) ∧ w'.cell? ⟨(ad181.add ((x16_1).toNat * 5)).block, (ad181.add ((x16_1).toNat * 5)).off + 1, none⟩ = some (.slice A181_1 ((rd_T50 l1 x16_1).f1).length c181_1) ∧ w'.cell? ⟨(ad181.add ((x16_1).toNat * 5)).block, (ad181.add ((x16_1).toNat * 5)).off + 2, none⟩ = some (.slice A181_2 ((rd_T50 l1 x16_1).f2).length c181_2) ∧ w'.cell? ⟨(ad181.add ((x16_1).toNat * 5)).block, (ad181.add ((x16_1).toNat * 5)).off + 3, none⟩ = some (.int .i64 ((rd_T50 l1 x16_1).f3)) ∧ w'.cell? ⟨(ad181.add ((x16_1).toNat * 5)).block, (ad181.add ((x16_1).toNat * 5)).off + 4, none⟩ = some (.slice A181_4 ((rd_T50 l1 x16_1).f4).length c181_4) ∧ w'.cell? (ad180.add ((x16_1).toNat * 5)) = some (.string ((rd_T50 l0 x16_1).f0)) ∧ w'.cell? ⟨(ad180.add ((x16_1).toNat * 5)).block, (ad180.add ((x16_1).toNat * 5)).off + 1, none⟩ = some (.slice A180_1 ((rd_T50 l0 x16_1).f1).length c180_1) ∧ w'.cell? ⟨(ad180.add ((x16_1).toNat * 5)).block, (ad180.add ((x16_1).toNat * 5)).off + 2, none⟩ = some (.slice A180_2 ((rd_T50 l0 x16_1).f2).length c180_2) ∧ w'.cell? ⟨(ad180.add ((x16_1).toNat * 5)).block, (ad180.add ((x16_1).toNat * 5)).off + 3, none⟩ = some (.int .i64 ((rd_T50 l0 x16_1).f3)) ∧ w'.cell? ⟨(ad180.add ((x16_1).toNat * 5)).block, (ad180.add ((x16_1).toNat * 5)).off + 4, none⟩ = some (.slice A180_4 ((rd_T50 l0 x16_1).f4).length c180_4) ∧ w'.cell? (ad181.add ((x16_1).toNat * 5)) = some (.string ((rd_T50 l1 x16_1).f0)) ∧ w'.cell? ⟨(ad181.add ((x16_1).toNat * 5)).block, (ad181.add ((x16_1).toNat * 5)).off + 1, none⟩ = some (.slice A181_1 ((rd_T50 l1 x16_1).f1).length c181_1) ∧ w'.cell? ⟨(ad181.add ((x16_1).toNat * 5)).block, (ad181.add ((x16_1).toNat * 5)).off + 2, none⟩ = some (.slice A181_2 ((rd_T50 l1 x16_1).f2).length c181_2) ∧ w'.cell? ⟨(ad181.add ((x16_1).toNat * 5)).block, (ad181.add ((x16_1).toNat * 5)).off + 3, none⟩ = some (.int .i64 ((rd_T50 l1 x16_1).f3)) ∧ w'.cell? ⟨(ad181.add ((x16_1).toNat * 5)).block, (ad181.add ((x16_1).toNat * 5)).off + 4, none⟩ = some (.slice A181_4 ((rd_T50 l1 x16_1).f4).length c181_4) ∧ w'.cell? (ad180.add ((x16_1).toNat * 5)) = some (.string ((rd_T50 l0 x16_1).f0)) ∧ w'.cell? ⟨(ad180.add ((x16_1).toNat * 5)).block, (ad180.add ((x16_1).toNat * 5)).off + 1, none⟩ = some (.slice A180_1 ((rd_T50 l0 x16_1).f1).length c180_1) ∧ w'.cell? ⟨(ad180.add ((x16_1).toNat * 5)).block, (ad180.add ((x16_1).toNat * 5)).off + 2, none⟩ = some (.slice A180_2 ((rd_T50 l0 x16_1).f2).length c180_2) ∧ w'.cell? ⟨(ad180.add ((x16_1).toNat * 5)).block, (ad180.add ((x16_1).toNat * 5)).off + 3, none⟩ = some (.int .i64 ((rd_T50 l0 x16_1).f3)) ∧ w'.cell? ⟨(ad180.add ((x16_1).toNat * 5)).block, (ad180.add ((x16_1).toNat * 5)).off + 4, none⟩ = some (.slice A180_4 ((rd_T50 l0 x16_1).f4).length c180_4) ∧ w'.cell? (ad181.add ((x16_1).toNat * 5)) = some (.string ((rd_T50 l1 x16_1).f0)) ∧ w'.cell? ⟨(ad181.add ((x16_1).toNat * 5)).block, (ad181.add ((x16_1).toNat * 5)).off + 1, none⟩ = some (.slice A181_1 ((rd_T50 l1 x16_1).f1).length c181_1) ∧ w'.cell? ⟨(ad181.add ((x16_1).toNat * 5)).block, (ad181.add ((x16_1).toNat * 5)).off + 2, none⟩ = some (.slice A181_2 ((rd_T50 l1 x16_1).f2).length c181_2) ∧ w'.cell? ⟨(ad181.add ((x16_1).toNat * 5)).block, (ad181.add ((x16_1).toNat * 5)).off + 3, none⟩ = some (.int .i64 ((rd_T50 l1 x16_1).f3)) ∧ w'.cell? ⟨(ad181.add ((x16_1).toNat * 5)).block, (ad181.add ((x16_1).toNat * 5)).off + 4, none⟩ = some (.slice A181_4 ((rd_T50 l1 x16_1).f4).length c181_4) ∧ w'.cell? (ad180.add ((x16_1).toNat * 5)) = some (.string ((rd_T50 l0 x16_1).f0)) ∧ w'.cell? ⟨(ad180.add ((x16_1).toNat * 5)).block, (ad180.add ((x16_1).toNat * 5)).off + 1, none⟩ = some (.slice A187_1 ((rd_T50 l0 x16_1).f1).length c187_1) ∧ w'.cell? ⟨(ad180.add ((x16_1).toNat * 5)).block, (ad180.add ((x16_1).toNat * 5)).off + 2, none⟩ = some (.slice A187_2 ((rd_T50 l0 x16_1).f2).length c187_2) ∧ w'.cell? ⟨(ad180.add ((x16_1).toNat * 5)).block, (ad180.add ((x16_1).toNat * 5)).off + 3, none⟩ = some (.int .i64 ((rd_T50 l0 x16_1).f3)) ∧ w'.cell? ⟨(ad180.add ((x16_1).toNat * 5)).block, (ad180.add ((x16_1).toNat * 5)).off + 4, none⟩ = some (.slice A187_4 ((rd_T50 l0 x16_1).f4).length c187_4) ∧ w'.cell? (ad181.add ((x16_1).toNat * 5)) = some (.string ((rd_T50 l1 x16_1).f0)) ∧ w'.cell? ⟨(ad181.add ((x16_1).toNat * 5)).block, (ad181.add ((x16_1).toNat * 5)).off + 1, none⟩ = some (.slice A188_1 ((rd_T50 l1 x16_1).f1).length c188_1) ∧ w'.cell? ⟨(ad181.add ((x16_1).toNat * 5)).block, (ad181.add ((x16_1).toNat * 5)).off + 2, none⟩ = some (.slice A188_2 ((rd_T50 l1 x16_1).f2).length c188_2) ∧ w'.cell? ⟨(ad181.add ((x16_1).toNat * 5)).block, (ad181.add ((x16_1).toNat * 5)).off + 3, none⟩ = some (.int .i64 ((rd_T50 l1 x16_1).f3)) ∧ w'.cell? ⟨(ad181.add ((x16_1).toNat * 5)).block, (ad181.add ((x16_1).toNat * 5)).off + 4, none⟩ = some (.slice A188_4 ((rd_T50 l1 x16_1).f4).length c188_4)) (ds := []) (mk 67 0) (by kernel_rfl) rfl (by kernel_rfl) ⟨(xb HB hw180_0), (xb HB hw180_1), (xb HB hw180_2), (xb HB hw180_3), (xb HB hw180_4), (xb HB hw181_0), (xb HB hw181_1), (xb HB hw181_2), (xb HB hw181_3), (xb HB hw181_4), (xb HB hw182_0), (xb HB hw182_1), (xb HB hw182_2), (xb HB hw182_3), (xb HB hw182_4), (xb HB hw183_0), (xb HB hw183_1), (xb HB hw183_2), (xb HB hw183_3), (xb HB hw183_4), (xb HB hw184_0), (xb HB hw184_1), (xb HB hw184_2), (xb HB hw184_3), (xb HB hw184_4), (xb HB hw185_0), (xb HB hw185_1), (xb HB hw185_2), (xb HB hw185_3), (xb HB hw185_4), (xb HB hw187_0), (xb HB hw187_1), (xb HB hw187_2), (xb HB hw187_3), (xb HB hw187_4), (xb HB hw188_0), (xb HB hw188_1), (xb HB hw188_2), (xb HB hw188_3), (xb HB hw188_4)⟩ (fun hHeld => ?_); refine with_tabW fluxionref29_Same.tab6 fluxionref29_Same.bits6 (fun HT_ HW_ => ?_)
             generalize wr.drew = w18 at HB HR180_1 HR180_2 HR180_4 HR181_1 HR181_2 HR181_4 HR182_1 HR182_2 HR182_4 HR183_1 HR183_2 HR183_4 HR184_1 HR184_2 HR184_4 HR185_1 HR185_2 HR185_4 HR187_1 HR187_2 HR187_4 HR188_1 HR188_2 HR188_4 hx180_0 hx180_1 hx180_2 hx180_3 hx180_4 hx181_0 hx181_1 hx181_2 hx181_3 hx181_4 hx182_0 hx182_1 hx182_2 hx182_3 hx182_4 hx183_0 hx183_1 hx183_2 hx183_3 hx183_4 hx184_0 hx184_1 hx184_2 hx184_3 hx184_4 hx185_0 hx185_1 hx185_2 hx185_3 hx185_4 hx187_0 hx187_1 hx187_2 hx187_3 hx187_4 hx188_0 hx188_1 hx188_2 hx188_3 hx188_4 hHeld ⊢
             refine pu 0 19 (mk 67 1) (any_of HT_.out (by kernel_rfl)) ?_
             refine pu 1 20 (mk 67 3) (any_of HT_.out (by kernel_rfl)) ?_
             refine pu 2 21 (mk 67 7) (any_of HT_.out (by kernel_rfl)) ?_
             refine pu 3 22 (mk 67 15) (any_of HT_.out (by kernel_rfl)) ?_
             refine pu 5 24 (mk 67 47) (any_of HT_.out (by kernel_rfl)) ?_
             refine pu 6 25 (mk 67 111) (any_of HT_.out (by kernel_rfl)) ?_
             refine pu 7 26 (mk 67 239) (any_of HT_.out (by kernel_rfl)) ?_
             refine pu 8 27 (mk 67 495) (any_of HT_.out (by kernel_rfl)) ?_
             refine tk 4 23 (mk 67 511) (take_ofW HT_.out HW_.out (by kernel_rfl)) hHeld ?_
             refine tk 9 28 (mk 67 1023) (take_ofW HT_.out HW_.out (by kernel_rfl)) hHeld ?_
             refine pu 10 29 (mk 67 2047) (any_of HT_.out (by kernel_rfl)) ?_
             refine pu 11 30 (mk 67 4095) (any_of HT_.out (by kernel_rfl)) ?_
             refine pu 12 31 (mk 67 8191) (any_of HT_.out (by kernel_rfl)) ?_
             refine pu 13 32 (mk 67 16383) (any_of HT_.out (by kernel_rfl)) ?_
             refine pu 14 33 (mk 67 32767) (any_of HT_.out (by kernel_rfl)) ?_
             refine pu 15 34 (mk 67 65535) (any_of HT_.out (by kernel_rfl)) ?_
             refine pu 17 36 (mk 67 196607) (any_of HT_.out (by kernel_rfl)) ?_
             refine pu 18 37 (mk 67 458751) (any_of HT_.out (by kernel_rfl)) ?_
             refine pu 19 38 (mk 67 983039) (any_of HT_.out (by kernel_rfl)) ?_
             refine pu 20 39 (mk 67 2031615) (any_of HT_.out (by kernel_rfl)) ?_
             refine tk 16 35 (mk 67 2097151) (take_ofW HT_.out HW_.out (by kernel_rfl)) hHeld ?_
             refine tk 21 40 (mk 67 4194303) (take_ofW HT_.out HW_.out (by kernel_rfl)) hHeld ?_
             refine pu 22 41 (mk 67 8388607) (any_of HT_.out (by kernel_rfl)) ?_
             refine pu 23 42 (mk 67 16777215) (any_of HT_.out (by kernel_rfl)) ?_
             refine pu 24 43 (mk 67 33554431) (any_of HT_.out (by kernel_rfl)) ?_
             refine pu 25 44 (mk 67 67108863) (any_of HT_.out (by kernel_rfl)) ?_
             refine pu 26 45 (mk 67 134217727) (any_of HT_.out (by kernel_rfl)) ?_
             refine pu 27 46 (mk 67 268435455) (any_of HT_.out (by kernel_rfl)) ?_
             refine pu 28 47 (mk 67 536870911) (any_of HT_.out (by kernel_rfl)) ?_
             refine pu 30 49 (mk 67 1610612735) (any_of HT_.out (by kernel_rfl)) ?_
             refine pu 31 50 (mk 67 3758096383) (any_of HT_.out (by kernel_rfl)) ?_
             refine pu 32 51 (mk 67 8053063679) (any_of HT_.out (by kernel_rfl)) ?_
             refine pu 33 52 (mk 67 16642998271) (any_of HT_.out (by kernel_rfl)) ?_
             refine tk 29 48 (mk 67 17179869183) (take_ofW HT_.out HW_.out (by kernel_rfl)) hHeld ?_
             refine tk 34 53 (mk 67 34359738367) (take_ofW HT_.out HW_.out (by kernel_rfl)) hHeld ?_
             refine one_ (i := 35) (N := some 54) (mk 67 68719476735) rfl rfl (one_of HT_.out (by kernel_rfl)) (by decide) (fun K hK => ?_)
             refine goes_ Tryz.func36 (by kernel_rfl) rfl #[.slice A180_1 ((rd_T50 l0 x16_1).f1).length c180_1, .slice A181_1 ((rd_T50 l1 x16_1).f1).length c181_1] (by rfl) rfl rfl (by (try simp only [List.map_toArray, List.map_cons, List.map_nil]); first | done | rfl | (simp only [List.length_drop, List.length_take]; rfl)) ?_
             with_reducible refine (fluxionref29_alike.calls k1 _ _ ((rd_T50 l0 x16_1).f1) _ _ ((rd_T50 l1 x16_1).f1) true _ ?side1 ?side2 ?side3 ?side4 A11.out).mono ?_
             (case side1 => exact cb HR184_1 HB)
             (case side2 => exact HC184_1.out)
             (case side3 => exact cb HR185_1 HB)
             (case side4 => exact HC185_1.out)
             rintro e w19 ⟨rfl, hb⟩
             refine ⟨_, rfl, ?_⟩
             have n0_ := Aside0.mk (below_step (bl HB) hb)
             clear HB
             have HB := n0_
             clear n0_
             (try clear hb)
             (try clear hb2)
             (try clear hk)
             (try clear hi)
             refine hK.out _ _ ⟨(xb HB hw180_0), (xb HB hw180_1), (xb HB hw180_2), (xb HB hw180_3), (xb HB hw180_4), (xb HB hw181_0), (xb HB hw181_1), (xb HB hw181_2), (xb HB hw181_3), (xb HB hw181_4), (xb HB hw182_0), (xb HB hw182_1), (xb HB hw182_2), (xb HB hw182_3), (xb HB hw182_4), (xb HB hw183_0), (xb HB hw183_1), (xb HB hw183_2), (xb HB hw183_3), (xb HB hw183_4), (xb HB hw184_0), (xb HB hw184_1), (xb HB hw184_2), (xb HB hw184_3), (xb HB hw184_4), (xb HB hw185_0), (xb HB hw185_1), (xb HB hw185_2), (xb HB hw185_3), (xb HB hw185_4), (xb HB hw187_0), (xb HB hw187_1), (xb HB hw187_2), (xb HB hw187_3), (xb HB hw187_4), (xb HB hw188_0), (xb HB hw188_1), (xb HB hw188_2), (xb HB hw188_3), (xb HB hw188_4)⟩ (fun hHeld => ?_)
             clear hK K
             refine norm_ (a' := ?_) ?_ ?_
             rotate_left
             ·show Act.put _ (some 54) _ = _
              simp only [Act.put, List.setIfInBounds_toArray, List.set_cons_zero, List.set_cons_succ, i64_w, i32_w]
              rfl
             refine pu 36 55 (mk 67 137438953471) (any_of HT_.out (by kernel_rfl)) ?_
             refine pu 37 56 (mk 67 274877906943) (any_of HT_.out (by kernel_rfl)) ?_
             refine pu 38 57 (mk 67 549755813887) (any_of HT_.out (by kernel_rfl)) ?_
             refine pu 39 58 (mk 67 1099511627775) (any_of HT_.out (by kernel_rfl)) ?_
             refine pu 40 59 (mk 67 2199023255551) (any_of HT_.out (by kernel_rfl)) ?_
             refine pu 41 60 (mk 67 4398046511103) (any_of HT_.out (by kernel_rfl)) ?_
             refine pu 42 61 (mk 67 8796093022207) (any_of HT_.out (by kernel_rfl)) ?_
             refine pu 44 63 (mk 67 26388279066623) (any_of HT_.out (by kernel_rfl)) ?_
             refine pu 45 64 (mk 67 61572651155455) (any_of HT_.out (by kernel_rfl)) ?_
             refine pu 46 65 (mk 67 131941395333119) (any_of HT_.out (by kernel_rfl)) ?_
             refine pu 47 66 (mk 67 272678883688447) (any_of HT_.out (by kernel_rfl)) ?_
             refine tk 43 62 (mk 67 281474976710655) (take_ofW HT_.out HW_.out (by kernel_rfl)) hHeld ?_
             refine tk 48 67 (mk 67 562949953421311) (take_ofW HT_.out HW_.out (by kernel_rfl)) hHeld ?_
             refine one_ (i := 49) (N := some 68) (mk 67 1125899906842623) rfl rfl (one_of HT_.out (by kernel_rfl)) (by decide) (fun K hK => ?_)
             refine goes_ Tryz.func36 (by kernel_rfl) rfl #[.slice A187_2 ((rd_T50 l0 x16_1).f2).length c187_2, .slice A188_2 ((rd_T50 l1 x16_1).f2).length c188_2] (by rfl) rfl rfl (by (try simp only [List.map_toArray, List.map_cons, List.map_nil]); first | done | rfl | (rw [q187_2, q188_2]; rfl) | (simp only [List.length_drop, List.length_take]; rfl)) ?_
             with_reducible refine (fluxionref29_alike.calls k1 _ _ ((rd_T50 l0 x16_1).f2) _ _ ((rd_T50 l1 x16_1).f2) false _ ?side1 ?side2 ?side3 ?side4 A13.out).mono ?_
             (case side1 => exact cb HR187_2 HB)
             (case side2 => exact HC187_2.out)
             (case side3 => exact cb HR188_2 HB)
             (case side4 => exact HC188_2.out)
             rintro e w20 ⟨rfl, hb⟩
             refine ⟨_, rfl, ?_⟩
             have n0_ := Aside0.mk (below_step (bl HB) hb)
             clear HB
             have HB := n0_
             clear n0_
             (try clear hb)
             (try clear hb2)
             (try clear hk)
             (try clear hi)
             refine hK.out _ _ ⟨(xb HB hw180_0), (xb HB hw180_1), (xb HB hw180_2), (xb HB hw180_3), (xb HB hw180_4), (xb HB hw181_0), (xb HB hw181_1), (xb HB hw181_2), (xb HB hw181_3), (xb HB hw181_4), (xb HB hw182_0), (xb HB hw182_1), (xb HB hw182_2), (xb HB hw182_3), (xb HB hw182_4), (xb HB hw183_0), (xb HB hw183_1), (xb HB hw183_2), (xb HB hw183_3), (xb HB hw183_4), (xb HB hw184_0), (xb HB hw184_1), (xb HB hw184_2), (xb HB hw184_3), (xb HB hw184_4), (xb HB hw185_0), (xb HB hw185_1), (xb HB hw185_2), (xb HB hw185_3), (xb HB hw185_4), (xb HB hw187_0), (xb HB hw187_1), (xb HB hw187_2), (xb HB hw187_3), (xb HB hw187_4), (xb HB hw188_0), (xb HB hw188_1), (xb HB hw188_2), (xb HB hw188_3), (xb HB hw188_4)⟩ (fun hHeld => ?_)
             clear hK K
             refine norm_ (a' := ?_) ?_ ?_
             rotate_left
             ·show Act.put _ (some 68) _ = _
              simp only [Act.put, List.setIfInBounds_toArray, List.set_cons_zero, List.set_cons_succ, i64_w, i32_w]
              rfl
             refine pu 50 69 (mk 67 2251799813685247) (any_of HT_.out (by kernel_rfl)) ?_
             refine pu 51 70 (mk 67 4503599627370495) (any_of HT_.out (by kernel_rfl)) ?_
             refine pu 52 71 (mk 67 9007199254740991) (any_of HT_.out (by kernel_rfl)) ?_
             refine pu 53 72 (mk 67 18014398509481983) (any_of HT_.out (by kernel_rfl)) ?_
             refine pu 54 73 (mk 67 36028797018963967) (any_of HT_.out (by kernel_rfl)) ?_
             refine pu 55 74 (mk 67 72057594037927935) (any_of HT_.out (by kernel_rfl)) ?_
             refine pu 56 75 (mk 67 144115188075855871) (any_of HT_.out (by kernel_rfl)) ?_
             refine pu 57 76 (mk 67 288230376151711743) (any_of HT_.out (by kernel_rfl)) ?_
             refine pu 58 77 (mk 67 576460752303423487) (any_of HT_.out (by kernel_rfl)) ?_
             refine pu 59 78 (mk 67 1152921504606846975) (any_of HT_.out (by kernel_rfl)) ?_
             refine pu 60 79 (mk 67 2305843009213693951) (any_of HT_.out (by kernel_rfl)) ?_
             refine pu 61 80 (mk 67 4611686018427387903) (any_of HT_.out (by kernel_rfl)) ?_
             refine pu 62 81 (mk 67 9223372036854775807) (any_of HT_.out (by kernel_rfl)) ?_
             refine pu 63 82 (mk 67 18446744073709551615) (any_of HT_.out (by kernel_rfl)) ?_
             refine pu 64 83 (mk 67 36893488147419103231) (any_of HT_.out (by kernel_rfl)) ?_
             refine pu 65 84 (mk 67 73786976294838206463) (any_of HT_.out (by kernel_rfl)) ?_
             refine pu 66 85 (mk 67 147573952589676412927) (any_of HT_.out (by kernel_rfl)) ?_
             refine done_ (done_of HT_.out (by kernel_rfl)) ?_
             try go_wp2
             go_meet
             case rel => exact ⟨_, (true), rs, H', ⟨by have := HK1.out; first | omega | exact Nat.le_refl _⟩, ⟨bl HB⟩⟩
           ·replace c12 := Bool.eq_false_iff.mpr c12
            subst c12
            have H1 : (fluxionref29_Same.j1 k1 l0 l1 x16_1 (l0.length : Int) x16_1 true) = some r := by rw [if_neg (show ¬ (false = true) by decide)] at H; exact H
            clear H
            have H := H1
            clear H1
            have H' := Aside0.mk H
            clear H
            try go_wp2
            have n0_ := Aside0.mk (below_drew1 HB.out)
            clear HB
            have HB := n0_
            clear n0_
            have p180 : 0 ≤ (x16_1 : Int) := oa
            have q180 : x16_1 < (l0.length : Int) := oa
            obtain ⟨ad180, A180_1, c180_1, A180_2, c180_2, A180_4, c180_4, e180, hx180_0, hx180_1, hx180_2, hx180_3, hx180_4, hl180_1, hi180_1, hl180_2, hi180_2, hl180_4, hi180_4⟩ := at_T50 HR0.out x16_1 p180 q180
            have hw180_4 := hx180_4
            have hw180_3 := hx180_3
            have hw180_2 := hx180_2
            have hw180_1 := hx180_1
            have hw180_0 := hx180_0
            cases e180
            replace hx180_0 := xb HB hx180_0
            replace hx180_1 := xb HB hx180_1
            replace hx180_2 := xb HB hx180_2
            replace hx180_3 := xb HB hx180_3
            replace hx180_4 := xb HB hx180_4
            have HR180_1 := Aside0.mk hi180_1
            have HC180_1 := Aside0.mk hl180_1
            clear hi180_1 hl180_1
            have HR180_2 := Aside0.mk hi180_2
            have HC180_2 := Aside0.mk hl180_2
            clear hi180_2 hl180_2
            have HR180_4 := Aside0.mk hi180_4
            have HC180_4 := Aside0.mk hl180_4
            clear hi180_4 hl180_4
            replace p180 := eq_true p180
            replace q180 := eq_true q180
            have p181 : 0 ≤ (x16_1 : Int) := oa
            have q181 : x16_1 < (l1.length : Int) := oa
            obtain ⟨ad181, A181_1, c181_1, A181_2, c181_2, A181_4, c181_4, e181, hx181_0, hx181_1, hx181_2, hx181_3, hx181_4, hl181_1, hi181_1, hl181_2, hi181_2, hl181_4, hi181_4⟩ := at_T50 HR1.out x16_1 p181 q181
            have hw181_4 := hx181_4
            have hw181_3 := hx181_3
            have hw181_2 := hx181_2
            have hw181_1 := hx181_1
            have hw181_0 := hx181_0
            cases e181
            replace hx181_0 := xb HB hx181_0
            replace hx181_1 := xb HB hx181_1
            replace hx181_2 := xb HB hx181_2
            replace hx181_3 := xb HB hx181_3
            replace hx181_4 := xb HB hx181_4
            have HR181_1 := Aside0.mk hi181_1
            have HC181_1 := Aside0.mk hl181_1
            clear hi181_1 hl181_1
            have HR181_2 := Aside0.mk hi181_2
            have HC181_2 := Aside0.mk hl181_2
            clear hi181_2 hl181_2
            have HR181_4 := Aside0.mk hi181_4
            have HC181_4 := Aside0.mk hl181_4
            clear hi181_4 hl181_4
            replace p181 := eq_true p181
            replace q181 := eq_true q181
            have p182 : 0 ≤ (x16_1 : Int) := oa
            have q182 : x16_1 < (l0.length : Int) := oa
            obtain ⟨ad182, A182_1, c182_1, A182_2, c182_2, A182_4, c182_4, e182, hx182_0, hx182_1, hx182_2, hx182_3, hx182_4, hl182_1, hi182_1, hl182_2, hi182_2, hl182_4, hi182_4⟩ := at_T50 HR0.out x16_1 p182 q182
            have hw182_4 := hx182_4
            have hw182_3 := hx182_3
            have hw182_2 := hx182_2
            have hw182_1 := hx182_1
            have hw182_0 := hx182_0
            obtain rfl : ad180 = ad182 := (by injection e182)
            have q182_1 := Option.some.inj (hw182_1.symm.trans hw180_1)
            have q182_2 := Option.some.inj (hw182_2.symm.trans hw180_2)
            have q182_4 := Option.some.inj (hw182_4.symm.trans hw180_4)
            replace hx182_0 := xb HB hx182_0
            replace hx182_1 := xb HB hx182_1
            replace hx182_2 := xb HB hx182_2
            replace hx182_3 := xb HB hx182_3
            replace hx182_4 := xb HB hx182_4
            have HR182_1 := Aside0.mk hi182_1
            have HC182_1 := Aside0.mk hl182_1
            clear hi182_1 hl182_1
            have HR182_2 := Aside0.mk hi182_2
            have HC182_2 := Aside0.mk hl182_2
            clear hi182_2 hl182_2
            have HR182_4 := Aside0.mk hi182_4
            have HC182_4 := Aside0.mk hl182_4
            clear hi182_4 hl182_4
            replace p182 := eq_true p182
            replace q182 := eq_true q182
            have ea_ := Option.some.inj (hx180_1.symm.trans hx182_1)
            injection ea_ with ea_ en_ ec_
            subst ea_
            subst ec_
            clear en_
            have ea_ := Option.some.inj (hx180_2.symm.trans hx182_2)
            injection ea_ with ea_ en_ ec_
            subst ea_
            subst ec_
            clear en_
            have ea_ := Option.some.inj (hx180_4.symm.trans hx182_4)
            injection ea_ with ea_ en_ ec_
            subst ea_
            subst ec_
            clear en_
            have p183 : 0 ≤ (x16_1 : Int) := oa
            have q183 : x16_1 < (l1.length : Int) := oa
            obtain ⟨ad183, A183_1, c183_1, A183_2, c183_2, A183_4, c183_4, e183, hx183_0, hx183_1, hx183_2, hx183_3, hx183_4, hl183_1, hi183_1, hl183_2, hi183_2, hl183_4, hi183_4⟩ := at_T50 HR1.out x16_1 p183 q183
            have hw183_4 := hx183_4
            have hw183_3 := hx183_3
            have hw183_2 := hx183_2
            have hw183_1 := hx183_1
            have hw183_0 := hx183_0
            obtain rfl : ad181 = ad183 := (by injection e183)
            have q183_1 := Option.some.inj (hw183_1.symm.trans hw181_1)
            have q183_2 := Option.some.inj (hw183_2.symm.trans hw181_2)
            have q183_4 := Option.some.inj (hw183_4.symm.trans hw181_4)
            replace hx183_0 := xb HB hx183_0
            replace hx183_1 := xb HB hx183_1
            replace hx183_2 := xb HB hx183_2
            replace hx183_3 := xb HB hx183_3
            replace hx183_4 := xb HB hx183_4
            have HR183_1 := Aside0.mk hi183_1
            have HC183_1 := Aside0.mk hl183_1
            clear hi183_1 hl183_1
            have HR183_2 := Aside0.mk hi183_2
            have HC183_2 := Aside0.mk hl183_2
            clear hi183_2 hl183_2
            have HR183_4 := Aside0.mk hi183_4
            have HC183_4 := Aside0.mk hl183_4
            clear hi183_4 hl183_4
            replace p183 := eq_true p183
            replace q183 := eq_true q183
            have ea_ := Option.some.inj (hx181_1.symm.trans hx183_1)
            injection ea_ with ea_ en_ ec_
            subst ea_
            subst ec_
            clear en_
            have ea_ := Option.some.inj (hx181_2.symm.trans hx183_2)
            injection ea_ with ea_ en_ ec_
            subst ea_
            subst ec_
            clear en_
            have ea_ := Option.some.inj (hx181_4.symm.trans hx183_4)
            injection ea_ with ea_ en_ ec_
            subst ea_
            subst ec_
            clear en_
            have p184 : 0 ≤ (x16_1 : Int) := oa
            have q184 : x16_1 < (l0.length : Int) := oa
            obtain ⟨ad184, A184_1, c184_1, A184_2, c184_2, A184_4, c184_4, e184, hx184_0, hx184_1, hx184_2, hx184_3, hx184_4, hl184_1, hi184_1, hl184_2, hi184_2, hl184_4, hi184_4⟩ := at_T50 HR0.out x16_1 p184 q184
            have hw184_4 := hx184_4
            have hw184_3 := hx184_3
            have hw184_2 := hx184_2
            have hw184_1 := hx184_1
            have hw184_0 := hx184_0
            obtain rfl : ad180 = ad184 := (by injection e184)
            have q184_1 := Option.some.inj (hw184_1.symm.trans hw180_1)
            have q184_2 := Option.some.inj (hw184_2.symm.trans hw180_2)
            have q184_4 := Option.some.inj (hw184_4.symm.trans hw180_4)
            replace hx184_0 := xb HB hx184_0
            replace hx184_1 := xb HB hx184_1
            replace hx184_2 := xb HB hx184_2
            replace hx184_3 := xb HB hx184_3
            replace hx184_4 := xb HB hx184_4
            have HR184_1 := Aside0.mk hi184_1
            have HC184_1 := Aside0.mk hl184_1
            clear hi184_1 hl184_1
            have HR184_2 := Aside0.mk hi184_2
            have HC184_2 := Aside0.mk hl184_2
            clear hi184_2 hl184_2
            have HR184_4 := Aside0.mk hi184_4
            have HC184_4 := Aside0.mk hl184_4
            clear hi184_4 hl184_4
            replace p184 := eq_true p184
            replace q184 := eq_true q184
            have ea_ := Option.some.inj (hx180_1.symm.trans hx184_1)
            injection ea_ with ea_ en_ ec_
            subst ea_
            subst ec_
            clear en_
            have ea_ := Option.some.inj (hx180_2.symm.trans hx184_2)
            injection ea_ with ea_ en_ ec_
            subst ea_
            subst ec_
            clear en_
            have ea_ := Option.some.inj (hx180_4.symm.trans hx184_4)
            injection ea_ with ea_ en_ ec_
            subst ea_
            subst ec_
            clear en_
            have p185 : 0 ≤ (x16_1 : Int) := oa
            have q185 : x16_1 < (l1.length : Int) := oa
            obtain ⟨ad185, A185_1, c185_1, A185_2, c185_2, A185_4, c185_4, e185, hx185_0, hx185_1, hx185_2, hx185_3, hx185_4, hl185_1, hi185_1, hl185_2, hi185_2, hl185_4, hi185_4⟩ := at_T50 HR1.out x16_1 p185 q185
            have hw185_4 := hx185_4
            have hw185_3 := hx185_3
            have hw185_2 := hx185_2
            have hw185_1 := hx185_1
            have hw185_0 := hx185_0
            obtain rfl : ad181 = ad185 := (by injection e185)
            have q185_1 := Option.some.inj (hw185_1.symm.trans hw181_1)
            have q185_2 := Option.some.inj (hw185_2.symm.trans hw181_2)
            have q185_4 := Option.some.inj (hw185_4.symm.trans hw181_4)
            replace hx185_0 := xb HB hx185_0
            replace hx185_1 := xb HB hx185_1
            replace hx185_2 := xb HB hx185_2
            replace hx185_3 := xb HB hx185_3
            replace hx185_4 := xb HB hx185_4
            have HR185_1 := Aside0.mk hi185_1
            have HC185_1 := Aside0.mk hl185_1
            clear hi185_1 hl185_1
            have HR185_2 := Aside0.mk hi185_2
            have HC185_2 := Aside0.mk hl185_2
            clear hi185_2 hl185_2
            have HR185_4 := Aside0.mk hi185_4
            have HC185_4 := Aside0.mk hl185_4
            clear hi185_4 hl185_4
            replace p185 := eq_true p185
            replace q185 := eq_true q185
            have ea_ := Option.some.inj (hx181_1.symm.trans hx185_1)
            injection ea_ with ea_ en_ ec_
            subst ea_
            subst ec_
            clear en_
            have ea_ := Option.some.inj (hx181_2.symm.trans hx185_2)
            injection ea_ with ea_ en_ ec_
            subst ea_
            subst ec_
            clear en_
            have ea_ := Option.some.inj (hx181_4.symm.trans hx185_4)
            injection ea_ with ea_ en_ ec_
            subst ea_
            subst ec_
            clear en_
            refine start_ (n := 67) (S := fun w' => w'.cell? (ad180.add ((x16_1).toNat * 5)) = some (.string ((rd_T50 l0 x16_1).f0)) ∧ w'.cell? ⟨(ad180.add ((x16_1).toNat * 5)).block, (ad180.add ((x16_1).toNat * 5)).off + 1, none⟩ = some (.slice A180_1 ((rd_T50 l0 x16_1).f1).length c180_1) ∧ w'.cell? ⟨(ad180.add ((x16_1).toNat * 5)).block, (ad180.add ((x16_1).toNat * 5)).off + 2, none⟩ = some (.slice A180_2 ((rd_T50 l0 x16_1).f2).length c180_2) ∧ w'.cell? ⟨(ad180.add ((x16_1).toNat * 5)).block, (ad180.add ((x16_1).toNat * 5)).off + 3, none⟩ = some (.int .i64 ((rd_T50 l0 x16_1).f3)) ∧ w'.cell? ⟨(ad180.add ((x16_1).toNat * 5)).block, (ad180.add ((x16_1).toNat * 5)).off + 4, none⟩ = some (.slice A180_4 ((rd_T50 l0 x16_1).f4).length c180_4) ∧ w'.cell? (ad181.add ((x16_1).toNat * 5)) = some (.string ((rd_T50 l1 x16_1).f0)) ∧ w'.cell? ⟨(ad181.add ((x16_1).toNat * 5)).block, (ad181.add ((x16_1).toNat * 5)).off + 1, none⟩ = some (.slice A181_1 ((rd_T50 l1 x16_1).f1).length c181_1) ∧ w'.cell? ⟨(ad181.add ((x16_1).toNat * 5)).block, (ad181.add ((x16_1).toNat * 5)).off + 2, none⟩ = some (.slice A181_2 ((rd_T50 l1 x16_1).f2).length c181_2) ∧ w'.cell? ⟨(ad181.add ((x16_1).toNat * 5)).block, (ad181.add ((x16_1).toNat * 5)).off + 3, none⟩ = some (.int .i64 ((rd_T50 l1 x16_1).f3)) ∧ w'.cell? ⟨(ad181.add ((x16_1).toNat * 5)).block, (ad181.add ((x16_1).toNat * 5)).off + 4, none⟩ = some (.slice A181_4 ((rd_T50 l1 x16_1).f4).length c181_4) ∧ w'.cell? (ad180.add ((x16_1).toNat * 5)) = some (.string ((rd_T50 l0 x16_1).f0)) ∧ w'.cell? ⟨(ad180.add ((x16_1).toNat * 5)).block, (ad180.add ((x16_1).toNat * 5)).off + 1, none⟩ = some (.slice A180_1 ((rd_T50 l0 x16_1).f1).length c180_1) ∧ w'.cell? ⟨(ad180.add ((x16_1).toNat * 5)).block, (ad180.add ((x16_1).toNat * 5)).off + 2, none⟩ = some (.slice A180_2 ((rd_T50 l0 x16_1).f2).length c180_2) ∧ w'.cell? ⟨(ad180.add ((x16_1).toNat * 5)).block, (ad180.add ((x16_1).toNat * 5)).off + 3, none⟩ = some (.int .i64 ((rd_T50 l0 x16_1).f3)) ∧ w'.cell? ⟨(ad180.add ((x16_1).toNat * 5)).block, (ad180.add ((x16_1).toNat * 5)).off + 4, none⟩ = some (.slice A180_4 ((rd_T50 l0 x16_1).f4).length c180_4) ∧ w'.cell? (ad181.add ((x16_1).toNat * 5)) = some (.string ((rd_T50 l1 x16_1).f0)) ∧ w'.cell? ⟨(ad181.add ((x16_1).toNat * 5)).block, (ad181.add ((x16_1).toNat * 5)).off + 1, none⟩ = some (.slice A181_1 ((rd_T50 l1 x16_1).f1).length c181_1) ∧ w'.cell? ⟨(ad181.add ((x16_1).toNat * 5)).block, (ad181.add ((x16_1).toNat * 5)).off + 2, none⟩ = some (.slice A181_2 ((rd_T50 l1 x16_1).f2).length c181_2) ∧ w'.cell? ⟨(ad181.add ((x16_1).toNat * 5)).block, (ad181.add ((x16_1).toNat * 5)).off + 3, none⟩ = some (.int .i64 ((rd_T50 l1 x16_1).f3)) ∧ w'.cell? ⟨(ad181.add ((x16_1).toNat * 5)).block, (ad181.add ((x16_1).toNat * 5)).off + 4, none⟩ = some (.slice A181_4 ((rd_T50 l1 x16_1).f4).length c181_4) ∧ w'.cell? (ad180.add ((x16_1).toNat * 5)) = some (.string ((rd_T50 l0 x16_1).f0)) ∧ w'.cell? ⟨(ad180.add ((x16_1).toNat * 5)).block, (ad180.add ((x16_1).toNat * 5)).off + 1, none⟩ = some (.slice A180_1 ((rd_T50 l0 x16_1).f1).length c180_1) ∧ w'.cell? ⟨(ad180.add ((x16_1).toNat * 5)).block, (ad180.add ((x16_1).toNat * 5)).off + 2, none⟩ = some (.slice A180_2 ((rd_T50 l0 x16_1).f2).length c180_2) ∧ w'.cell? ⟨(ad180.add ((x16_1).toNat * 5)).block, (ad180.add ((x16_1).toNat * 5)).off + 3, none⟩ = some (.int .i64 ((rd_T50 l0 x16_1).f3)) ∧ w'.cell? ⟨(ad180.add ((x16_1).toNat * 5)).block, (ad180.add ((x16_1).toNat * 5)).off + 4, none⟩ = some (.slice A180_4 ((rd_T50 l0 x16_1).f4).length c180_4) ∧ w'.cell? (ad181.add ((x16_1).toNat * 5)) = some (.string ((rd_T50 l1 x16_1).f0)) ∧ w'.cell? ⟨(ad181.add ((x16_1).toNat * 5)).block, (ad181.add ((x16_1).toNat * 5)).off + 1, none⟩ = some (.slice A181_1 ((rd_T50 l1 x16_1).f1).length c181_1) ∧ w'.cell? ⟨(ad181.add ((x16_1).toNat * 5)).block, (ad181.add ((x16_1).toNat * 5)).off + 2, none⟩ = some (.slice A181_2 ((rd_T50 l1 x16_1).f2).length c181_2) ∧ w'.cell? ⟨(ad181.add ((x16_1).toNat * 5)).block, (ad181.add ((x16_1).toNat * 5)).off + 3, none⟩ = some (.int .i64 ((rd_T50 l1 x16_1).f3)) ∧ w'.cell? ⟨(ad181.add ((x16_1).toNat * 5)).block, (ad181.add ((x16_1).toNat * 5)).off + 4, none⟩ = some (.slice A181_4 ((rd_T50 l1 x16_1).f4).length c181_4)) (ds := []) (mk 67 0) (by kernel_rfl) rfl (by kernel_rfl) ⟨(xb HB hw180_0), (xb HB hw180_1), (xb HB hw180_2), (xb HB hw180_3), (xb HB hw180_4), (xb HB hw181_0), (xb HB hw181_1), (xb HB hw181_2), (xb HB hw181_3), (xb HB hw181_4), (xb HB hw182_0), (xb HB hw182_1), (xb HB hw182_2), (xb HB hw182_3), (xb HB hw182_4), (xb HB hw183_0), (xb HB hw183_1), (xb HB hw183_2), (xb HB hw183_3), (xb HB hw183_4), (xb HB hw184_0), (xb HB hw184_1), (xb HB hw184_2), (xb HB hw184_3), (xb HB hw184_4), (xb HB hw185_0), (xb HB hw185_1), (xb HB hw185_2), (xb HB hw185_3), (xb HB hw185_4)⟩ (fun hHeld => ?_); refine with_tabW fluxionref29_Same.tab6 fluxionref29_Same.bits6 (fun HT_ HW_ => ?_)
            generalize wr.drew = w21 at HB HR180_1 HR180_2 HR180_4 HR181_1 HR181_2 HR181_4 HR182_1 HR182_2 HR182_4 HR183_1 HR183_2 HR183_4 HR184_1 HR184_2 HR184_4 HR185_1 HR185_2 HR185_4 hx180_0 hx180_1 hx180_2 hx180_3 hx180_4 hx181_0 hx181_1 hx181_2 hx181_3 hx181_4 hx182_0 hx182_1 hx182_2 hx182_3 hx182_4 hx183_0 hx183_1 hx183_2 hx183_3 hx183_4 hx184_0 hx184_1 hx184_2 hx184_3 hx184_4 hx185_0 hx185_1 hx185_2 hx185_3 hx185_4 hHeld ⊢
            refine pu 0 19 (mk 67 1) (any_of HT_.out (by kernel_rfl)) ?_
            refine pu 1 20 (mk 67 3) (any_of HT_.out (by kernel_rfl)) ?_
            refine pu 2 21 (mk 67 7) (any_of HT_.out (by kernel_rfl)) ?_
            refine pu 3 22 (mk 67 15) (any_of HT_.out (by kernel_rfl)) ?_
            refine pu 5 24 (mk 67 47) (any_of HT_.out (by kernel_rfl)) ?_
            refine pu 6 25 (mk 67 111) (any_of HT_.out (by kernel_rfl)) ?_
            refine pu 7 26 (mk 67 239) (any_of HT_.out (by kernel_rfl)) ?_
            refine pu 8 27 (mk 67 495) (any_of HT_.out (by kernel_rfl)) ?_
            refine tk 4 23 (mk 67 511) (take_ofW HT_.out HW_.out (by kernel_rfl)) hHeld ?_
            refine tk 9 28 (mk 67 1023) (take_ofW HT_.out HW_.out (by kernel_rfl)) hHeld ?_
            refine pu 10 29 (mk 67 2047) (any_of HT_.out (by kernel_rfl)) ?_
            refine pu 11 30 (mk 67 4095) (any_of HT_.out (by kernel_rfl)) ?_
            refine pu 12 31 (mk 67 8191) (any_of HT_.out (by kernel_rfl)) ?_
            refine pu 13 32 (mk 67 16383) (any_of HT_.out (by kernel_rfl)) ?_
            refine pu 14 33 (mk 67 32767) (any_of HT_.out (by kernel_rfl)) ?_
            refine pu 15 34 (mk 67 65535) (any_of HT_.out (by kernel_rfl)) ?_
            refine pu 17 36 (mk 67 196607) (any_of HT_.out (by kernel_rfl)) ?_
            refine pu 18 37 (mk 67 458751) (any_of HT_.out (by kernel_rfl)) ?_
            refine pu 19 38 (mk 67 983039) (any_of HT_.out (by kernel_rfl)) ?_
            refine pu 20 39 (mk 67 2031615) (any_of HT_.out (by kernel_rfl)) ?_
            refine tk 16 35 (mk 67 2097151) (take_ofW HT_.out HW_.out (by kernel_rfl)) hHeld ?_
            refine tk 21 40 (mk 67 4194303) (take_ofW HT_.out HW_.out (by kernel_rfl)) hHeld ?_
            refine pu 22 41 (mk 67 8388607) (any_of HT_.out (by kernel_rfl)) ?_
            refine pu 23 42 (mk 67 16777215) (any_of HT_.out (by kernel_rfl)) ?_
            refine pu 24 43 (mk 67 33554431) (any_of HT_.out (by kernel_rfl)) ?_
            refine pu 25 44 (mk 67 67108863) (any_of HT_.out (by kernel_rfl)) ?_
            refine pu 26 45 (mk 67 134217727) (any_of HT_.out (by kernel_rfl)) ?_
            refine pu 27 46 (mk 67 268435455) (any_of HT_.out (by kernel_rfl)) ?_
            refine pu 28 47 (mk 67 536870911) (any_of HT_.out (by kernel_rfl)) ?_
            refine pu 30 49 (mk 67 1610612735) (any_of HT_.out (by kernel_rfl)) ?_
            refine pu 31 50 (mk 67 3758096383) (any_of HT_.out (by kernel_rfl)) ?_
            refine pu 32 51 (mk 67 8053063679) (any_of HT_.out (by kernel_rfl)) ?_
            refine pu 33 52 (mk 67 16642998271) (any_of HT_.out (by kernel_rfl)) ?_
            refine tk 29 48 (mk 67 17179869183) (take_ofW HT_.out HW_.out (by kernel_rfl)) hHeld ?_
            refine tk 34 53 (mk 67 34359738367) (take_ofW HT_.out HW_.out (by kernel_rfl)) hHeld ?_
            refine one_ (i := 35) (N := some 54) (mk 67 68719476735) rfl rfl (one_of HT_.out (by kernel_rfl)) (by decide) (fun K hK => ?_)
            refine goes_ Tryz.func36 (by kernel_rfl) rfl #[.slice A180_1 ((rd_T50 l0 x16_1).f1).length c180_1, .slice A181_1 ((rd_T50 l1 x16_1).f1).length c181_1] (by rfl) rfl rfl (by (try simp only [List.map_toArray, List.map_cons, List.map_nil]); first | done | rfl | (simp only [List.length_drop, List.length_take]; rfl)) ?_
            with_reducible refine (fluxionref29_alike.calls k1 _ _ ((rd_T50 l0 x16_1).f1) _ _ ((rd_T50 l1 x16_1).f1) false _ ?side1 ?side2 ?side3 ?side4 A11.out).mono ?_
            (case side1 => exact cb HR184_1 HB)
            (case side2 => exact HC184_1.out)
            (case side3 => exact cb HR185_1 HB)
            (case side4 => exact HC185_1.out)
            rintro e w22 ⟨rfl, hb⟩
            refine ⟨_, rfl, ?_⟩
            have n0_ := Aside0.mk (below_step (bl HB) hb)
            clear HB
            have HB := n0_
            clear n0_
            (try clear hb)
            (try clear hb2)
            (try clear hk)
            (try clear hi)
            refine hK.out _ _ ⟨(xb HB hw180_0), (xb HB hw180_1), (xb HB hw180_2), (xb HB hw180_3), (xb HB hw180_4), (xb HB hw181_0), (xb HB hw181_1), (xb HB hw181_2), (xb HB hw181_3), (xb HB hw181_4), (xb HB hw182_0), (xb HB hw182_1), (xb HB hw182_2), (xb HB hw182_3), (xb HB hw182_4), (xb HB hw183_0), (xb HB hw183_1), (xb HB hw183_2), (xb HB hw183_3), (xb HB hw183_4), (xb HB hw184_0), (xb HB hw184_1), (xb HB hw184_2), (xb HB hw184_3), (xb HB hw184_4), (xb HB hw185_0), (xb HB hw185_1), (xb HB hw185_2), (xb HB hw185_3), (xb HB hw185_4)⟩ (fun hHeld => ?_)
            clear hK K
            refine norm_ (a' := ?_) ?_ ?_
            rotate_left
            ·show Act.put _ (some 54) _ = _
             simp only [Act.put, List.setIfInBounds_toArray, List.set_cons_zero, List.set_cons_succ, i64_w, i32_w]
             rfl
            refine pu 36 55 (mk 67 137438953471) (any_of HT_.out (by kernel_rfl)) ?_
            refine pu 37 56 (mk 67 274877906943) (any_of HT_.out (by kernel_rfl)) ?_
            refine pu 38 57 (mk 67 549755813887) (any_of HT_.out (by kernel_rfl)) ?_
            refine pu 39 58 (mk 67 1099511627775) (any_of HT_.out (by kernel_rfl)) ?_
            refine pu 40 59 (mk 67 2199023255551) (any_of HT_.out (by kernel_rfl)) ?_
            refine pu 41 60 (mk 67 4398046511103) (any_of HT_.out (by kernel_rfl)) ?_
            refine pu 42 61 (mk 67 8796093022207) (any_of HT_.out (by kernel_rfl)) ?_
            refine pu 43 62 (mk 67 17592186044415) (any_of HT_.out (by kernel_rfl)) ?_
            refine pu 44 63 (mk 67 35184372088831) (any_of HT_.out (by kernel_rfl)) ?_
            refine pu 45 64 (mk 67 70368744177663) (any_of HT_.out (by kernel_rfl)) ?_
            refine pu 46 65 (mk 67 140737488355327) (any_of HT_.out (by kernel_rfl)) ?_
            refine pu 47 66 (mk 67 281474976710655) (any_of HT_.out (by kernel_rfl)) ?_
            refine pu 48 67 (mk 67 562949953421311) (any_of HT_.out (by kernel_rfl)) ?_
            refine pu 49 68 (mk 67 1125899906842623) (any_of HT_.out (by kernel_rfl)) ?_
            refine pu 50 69 (mk 67 2251799813685247) (any_of HT_.out (by kernel_rfl)) ?_
            refine pu 51 70 (mk 67 4503599627370495) (any_of HT_.out (by kernel_rfl)) ?_
            refine pu 52 71 (mk 67 9007199254740991) (any_of HT_.out (by kernel_rfl)) ?_
            refine pu 53 72 (mk 67 18014398509481983) (any_of HT_.out (by kernel_rfl)) ?_
            refine pu 54 73 (mk 67 36028797018963967) (any_of HT_.out (by kernel_rfl)) ?_
            refine pu 55 74 (mk 67 72057594037927935) (any_of HT_.out (by kernel_rfl)) ?_
            refine pu 56 75 (mk 67 144115188075855871) (any_of HT_.out (by kernel_rfl)) ?_
            refine pu 57 76 (mk 67 288230376151711743) (any_of HT_.out (by kernel_rfl)) ?_
            refine pu 58 77 (mk 67 576460752303423487) (any_of HT_.out (by kernel_rfl)) ?_
            refine pu 59 78 (mk 67 1152921504606846975) (any_of HT_.out (by kernel_rfl)) ?_
            refine pu 60 79 (mk 67 2305843009213693951) (any_of HT_.out (by kernel_rfl)) ?_
            refine pu 61 80 (mk 67 4611686018427387903) (any_of HT_.out (by kernel_rfl)) ?_
            refine pu 62 81 (mk 67 9223372036854775807) (any_of HT_.out (by kernel_rfl)) ?_
            refine pu 63 82 (mk 67 18446744073709551615) (any_of HT_.out (by kernel_rfl)) ?_
            refine pu 64 83 (mk 67 36893488147419103231) (any_of HT_.out (by kernel_rfl)) ?_
            refine pu 65 84 (mk 67 73786976294838206463) (any_of HT_.out (by kernel_rfl)) ?_
            refine pu 66 85 (mk 67 147573952589676412927) (any_of HT_.out (by kernel_rfl)) ?_
            refine done_ (done_of HT_.out (by kernel_rfl)) ?_
            try go_wp2
            go_meet
            case rel => exact ⟨_, (true), rs, H', ⟨by have := HK1.out; first | omega | exact Nat.le_refl _⟩, ⟨bl HB⟩⟩
          ·rw [if_neg c10] at H
           have c10b0 : (((rd_T50 l0 x16_1).f3) == ((rd_T50 l1 x16_1).f3)) = false := beq_eq_false_iff_ne.mpr c10
           have c10b1 : (((rd_T50 l0 x16_1).f3) != ((rd_T50 l1 x16_1).f3)) = true := bne_iff_ne.mpr c10
           have H' := Aside0.mk H
           clear H
           try go_wp2
           have n0_ := Aside0.mk (below_drew1 HB.out)
           clear HB
           have HB := n0_
           clear n0_
           have p180 : 0 ≤ (x16_1 : Int) := oa
           have q180 : x16_1 < (l0.length : Int) := oa
           obtain ⟨ad180, A180_1, c180_1, A180_2, c180_2, A180_4, c180_4, e180, hx180_0, hx180_1, hx180_2, hx180_3, hx180_4, hl180_1, hi180_1, hl180_2, hi180_2, hl180_4, hi180_4⟩ := at_T50 HR0.out x16_1 p180 q180
           have hw180_4 := hx180_4
           have hw180_3 := hx180_3
           have hw180_2 := hx180_2
           have hw180_1 := hx180_1
           have hw180_0 := hx180_0
           cases e180
           replace hx180_0 := xb HB hx180_0
           replace hx180_1 := xb HB hx180_1
           replace hx180_2 := xb HB hx180_2
           replace hx180_3 := xb HB hx180_3
           replace hx180_4 := xb HB hx180_4
           have HR180_1 := Aside0.mk hi180_1
           have HC180_1 := Aside0.mk hl180_1
           clear hi180_1 hl180_1
           have HR180_2 := Aside0.mk hi180_2
           have HC180_2 := Aside0.mk hl180_2
           clear hi180_2 hl180_2
           have HR180_4 := Aside0.mk hi180_4
           have HC180_4 := Aside0.mk hl180_4
           clear hi180_4 hl180_4
           replace p180 := eq_true p180
           replace q180 := eq_true q180
           have p181 : 0 ≤ (x16_1 : Int) := oa
           have q181 : x16_1 < (l1.length : Int) := oa
           obtain ⟨ad181, A181_1, c181_1, A181_2, c181_2, A181_4, c181_4, e181, hx181_0, hx181_1, hx181_2, hx181_3, hx181_4, hl181_1, hi181_1, hl181_2, hi181_2, hl181_4, hi181_4⟩ := at_T50 HR1.out x16_1 p181 q181
           have hw181_4 := hx181_4
           have hw181_3 := hx181_3
           have hw181_2 := hx181_2
           have hw181_1 := hx181_1
           have hw181_0 := hx181_0
           cases e181
           replace hx181_0 := xb HB hx181_0
           replace hx181_1 := xb HB hx181_1
           replace hx181_2 := xb HB hx181_2
           replace hx181_3 := xb HB hx181_3
           replace hx181_4 := xb HB hx181_4
           have HR181_1 := Aside0.mk hi181_1
           have HC181_1 := Aside0.mk hl181_1
           clear hi181_1 hl181_1
           have HR181_2 := Aside0.mk hi181_2
           have HC181_2 := Aside0.mk hl181_2
           clear hi181_2 hl181_2
           have HR181_4 := Aside0.mk hi181_4
           have HC181_4 := Aside0.mk hl181_4
           clear hi181_4 hl181_4
           replace p181 := eq_true p181
           replace q181 := eq_true q181
           have p182 : 0 ≤ (x16_1 : Int) := oa
           have q182 : x16_1 < (l0.length : Int) := oa
           obtain ⟨ad182, A182_1, c182_1, A182_2, c182_2, A182_4, c182_4, e182, hx182_0, hx182_1, hx182_2, hx182_3, hx182_4, hl182_1, hi182_1, hl182_2, hi182_2, hl182_4, hi182_4⟩ := at_T50 HR0.out x16_1 p182 q182
           have hw182_4 := hx182_4
           have hw182_3 := hx182_3
           have hw182_2 := hx182_2
           have hw182_1 := hx182_1
           have hw182_0 := hx182_0
           obtain rfl : ad180 = ad182 := (by injection e182)
           have q182_1 := Option.some.inj (hw182_1.symm.trans hw180_1)
           have q182_2 := Option.some.inj (hw182_2.symm.trans hw180_2)
           have q182_4 := Option.some.inj (hw182_4.symm.trans hw180_4)
           replace hx182_0 := xb HB hx182_0
           replace hx182_1 := xb HB hx182_1
           replace hx182_2 := xb HB hx182_2
           replace hx182_3 := xb HB hx182_3
           replace hx182_4 := xb HB hx182_4
           have HR182_1 := Aside0.mk hi182_1
           have HC182_1 := Aside0.mk hl182_1
           clear hi182_1 hl182_1
           have HR182_2 := Aside0.mk hi182_2
           have HC182_2 := Aside0.mk hl182_2
           clear hi182_2 hl182_2
           have HR182_4 := Aside0.mk hi182_4
           have HC182_4 := Aside0.mk hl182_4
           clear hi182_4 hl182_4
           replace p182 := eq_true p182
           replace q182 := eq_true q182
           have ea_ := Option.some.inj (hx180_1.symm.trans hx182_1)
           injection ea_ with ea_ en_ ec_
           subst ea_
           subst ec_
           clear en_
           have ea_ := Option.some.inj (hx180_2.symm.trans hx182_2)
           injection ea_ with ea_ en_ ec_
           subst ea_
           subst ec_
           clear en_
           have ea_ := Option.some.inj (hx180_4.symm.trans hx182_4)
           injection ea_ with ea_ en_ ec_
           subst ea_
           subst ec_
           clear en_
           have p183 : 0 ≤ (x16_1 : Int) := oa
           have q183 : x16_1 < (l1.length : Int) := oa
           obtain ⟨ad183, A183_1, c183_1, A183_2, c183_2, A183_4, c183_4, e183, hx183_0, hx183_1, hx183_2, hx183_3, hx183_4, hl183_1, hi183_1, hl183_2, hi183_2, hl183_4, hi183_4⟩ := at_T50 HR1.out x16_1 p183 q183
           have hw183_4 := hx183_4
           have hw183_3 := hx183_3
           have hw183_2 := hx183_2
           have hw183_1 := hx183_1
           have hw183_0 := hx183_0
           obtain rfl : ad181 = ad183 := (by injection e183)
           have q183_1 := Option.some.inj (hw183_1.symm.trans hw181_1)
           have q183_2 := Option.some.inj (hw183_2.symm.trans hw181_2)
           have q183_4 := Option.some.inj (hw183_4.symm.trans hw181_4)
           replace hx183_0 := xb HB hx183_0
           replace hx183_1 := xb HB hx183_1
           replace hx183_2 := xb HB hx183_2
           replace hx183_3 := xb HB hx183_3
           replace hx183_4 := xb HB hx183_4
           have HR183_1 := Aside0.mk hi183_1
           have HC183_1 := Aside0.mk hl183_1
           clear hi183_1 hl183_1
           have HR183_2 := Aside0.mk hi183_2
           have HC183_2 := Aside0.mk hl183_2
           clear hi183_2 hl183_2
           have HR183_4 := Aside0.mk hi183_4
           have HC183_4 := Aside0.mk hl183_4
           clear hi183_4 hl183_4
           replace p183 := eq_true p183
           replace q183 := eq_true q183
           have ea_ := Option.some.inj (hx181_1.symm.trans hx183_1)
           injection ea_ with ea_ en_ ec_
           subst ea_
           subst ec_
           clear en_
           have ea_ := Option.some.inj (hx181_2.symm.trans hx183_2)
           injection ea_ with ea_ en_ ec_
           subst ea_
           subst ec_
           clear en_
           have ea_ := Option.some.inj (hx181_4.symm.trans hx183_4)
           injection ea_ with ea_ en_ ec_
           subst ea_
           subst ec_
           clear en_
           refine start_ (n := 67) (S := fun w' => w'.cell? (ad180.add ((x16_1).toNat * 5)) = some (.string ((rd_T50 l0 x16_1).f0)) ∧ w'.cell? ⟨(ad180.add ((x16_1).toNat * 5)).block, (ad180.add ((x16_1).toNat * 5)).off + 1, none⟩ = some (.slice A180_1 ((rd_T50 l0 x16_1).f1).length c180_1) ∧ w'.cell? ⟨(ad180.add ((x16_1).toNat * 5)).block, (ad180.add ((x16_1).toNat * 5)).off + 2, none⟩ = some (.slice A180_2 ((rd_T50 l0 x16_1).f2).length c180_2) ∧ w'.cell? ⟨(ad180.add ((x16_1).toNat * 5)).block, (ad180.add ((x16_1).toNat * 5)).off + 3, none⟩ = some (.int .i64 ((rd_T50 l0 x16_1).f3)) ∧ w'.cell? ⟨(ad180.add ((x16_1).toNat * 5)).block, (ad180.add ((x16_1).toNat * 5)).off + 4, none⟩ = some (.slice A180_4 ((rd_T50 l0 x16_1).f4).length c180_4) ∧ w'.cell? (ad181.add ((x16_1).toNat * 5)) = some (.string ((rd_T50 l1 x16_1).f0)) ∧ w'.cell? ⟨(ad181.add ((x16_1).toNat * 5)).block, (ad181.add ((x16_1).toNat * 5)).off + 1, none⟩ = some (.slice A181_1 ((rd_T50 l1 x16_1).f1).length c181_1) ∧ w'.cell? ⟨(ad181.add ((x16_1).toNat * 5)).block, (ad181.add ((x16_1).toNat * 5)).off + 2, none⟩ = some (.slice A181_2 ((rd_T50 l1 x16_1).f2).length c181_2) ∧ w'.cell? ⟨(ad181.add ((x16_1).toNat * 5)).block, (ad181.add ((x16_1).toNat * 5)).off + 3, none⟩ = some (.int .i64 ((rd_T50 l1 x16_1).f3)) ∧ w'.cell? ⟨(ad181.add ((x16_1).toNat * 5)).block, (ad181.add ((x16_1).toNat * 5)).off + 4, none⟩ = some (.slice A181_4 ((rd_T50 l1 x16_1).f4).length c181_4) ∧ w'.cell? (ad180.add ((x16_1).toNat * 5)) = some (.string ((rd_T50 l0 x16_1).f0)) ∧ w'.cell? ⟨(ad180.add ((x16_1).toNat * 5)).block, (ad180.add ((x16_1).toNat * 5)).off + 1, none⟩ = some (.slice A180_1 ((rd_T50 l0 x16_1).f1).length c180_1) ∧ w'.cell? ⟨(ad180.add ((x16_1).toNat * 5)).block, (ad180.add ((x16_1).toNat * 5)).off + 2, none⟩ = some (.slice A180_2 ((rd_T50 l0 x16_1).f2).length c180_2) ∧ w'.cell? ⟨(ad180.add ((x16_1).toNat * 5)).block, (ad180.add ((x16_1).toNat * 5)).off + 3, none⟩ = some (.int .i64 ((rd_T50 l0 x16_1).f3)) ∧ w'.cell? ⟨(ad180.add ((x16_1).toNat * 5)).block, (ad180.add ((x16_1).toNat * 5)).off + 4, none⟩ = some (.slice A180_4 ((rd_T50 l0 x16_1).f4).length c180_4) ∧ w'.cell? (ad181.add ((x16_1).toNat * 5)) = some (.string ((rd_T50 l1 x16_1).f0)) ∧ w'.cell? ⟨(ad181.add ((x16_1).toNat * 5)).block, (ad181.add ((x16_1).toNat * 5)).off + 1, none⟩ = some (.slice A181_1 ((rd_T50 l1 x16_1).f1).length c181_1) ∧ w'.cell? ⟨(ad181.add ((x16_1).toNat * 5)).block, (ad181.add ((x16_1).toNat * 5)).off + 2, none⟩ = some (.slice A181_2 ((rd_T50 l1 x16_1).f2).length c181_2) ∧ w'.cell? ⟨(ad181.add ((x16_1).toNat * 5)).block, (ad181.add ((x16_1).toNat * 5)).off + 3, none⟩ = some (.int .i64 ((rd_T50 l1 x16_1).f3)) ∧ w'.cell? ⟨(ad181.add ((x16_1).toNat * 5)).block, (ad181.add ((x16_1).toNat * 5)).off + 4, none⟩ = some (.slice A181_4 ((rd_T50 l1 x16_1).f4).length c181_4)) (ds := []) (mk 67 0) (by kernel_rfl) rfl (by kernel_rfl) ⟨(xb HB hw180_0), (xb HB hw180_1), (xb HB hw180_2), (xb HB hw180_3), (xb HB hw180_4), (xb HB hw181_0), (xb HB hw181_1), (xb HB hw181_2), (xb HB hw181_3), (xb HB hw181_4), (xb HB hw182_0), (xb HB hw182_1), (xb HB hw182_2), (xb HB hw182_3), (xb HB hw182_4), (xb HB hw183_0), (xb HB hw183_1), (xb HB hw183_2), (xb HB hw183_3), (xb HB hw183_4)⟩ (fun hHeld => ?_); refine with_tabW fluxionref29_Same.tab6 fluxionref29_Same.bits6 (fun HT_ HW_ => ?_)
           generalize wr.drew = w23 at HB HR180_1 HR180_2 HR180_4 HR181_1 HR181_2 HR181_4 HR182_1 HR182_2 HR182_4 HR183_1 HR183_2 HR183_4 hx180_0 hx180_1 hx180_2 hx180_3 hx180_4 hx181_0 hx181_1 hx181_2 hx181_3 hx181_4 hx182_0 hx182_1 hx182_2 hx182_3 hx182_4 hx183_0 hx183_1 hx183_2 hx183_3 hx183_4 hHeld ⊢
           refine pu 0 19 (mk 67 1) (any_of HT_.out (by kernel_rfl)) ?_
           refine pu 1 20 (mk 67 3) (any_of HT_.out (by kernel_rfl)) ?_
           refine pu 2 21 (mk 67 7) (any_of HT_.out (by kernel_rfl)) ?_
           refine pu 3 22 (mk 67 15) (any_of HT_.out (by kernel_rfl)) ?_
           refine pu 5 24 (mk 67 47) (any_of HT_.out (by kernel_rfl)) ?_
           refine pu 6 25 (mk 67 111) (any_of HT_.out (by kernel_rfl)) ?_
           refine pu 7 26 (mk 67 239) (any_of HT_.out (by kernel_rfl)) ?_
           refine pu 8 27 (mk 67 495) (any_of HT_.out (by kernel_rfl)) ?_
           refine tk 4 23 (mk 67 511) (take_ofW HT_.out HW_.out (by kernel_rfl)) hHeld ?_
           refine tk 9 28 (mk 67 1023) (take_ofW HT_.out HW_.out (by kernel_rfl)) hHeld ?_
           refine pu 10 29 (mk 67 2047) (any_of HT_.out (by kernel_rfl)) ?_
           refine pu 11 30 (mk 67 4095) (any_of HT_.out (by kernel_rfl)) ?_
           refine pu 12 31 (mk 67 8191) (any_of HT_.out (by kernel_rfl)) ?_
           refine pu 13 32 (mk 67 16383) (any_of HT_.out (by kernel_rfl)) ?_
           refine pu 14 33 (mk 67 32767) (any_of HT_.out (by kernel_rfl)) ?_
           refine pu 15 34 (mk 67 65535) (any_of HT_.out (by kernel_rfl)) ?_
           refine pu 17 36 (mk 67 196607) (any_of HT_.out (by kernel_rfl)) ?_
           refine pu 18 37 (mk 67 458751) (any_of HT_.out (by kernel_rfl)) ?_
           refine pu 19 38 (mk 67 983039) (any_of HT_.out (by kernel_rfl)) ?_
           refine pu 20 39 (mk 67 2031615) (any_of HT_.out (by kernel_rfl)) ?_
           refine tk 16 35 (mk 67 2097151) (take_ofW HT_.out HW_.out (by kernel_rfl)) hHeld ?_
           refine tk 21 40 (mk 67 4194303) (take_ofW HT_.out HW_.out (by kernel_rfl)) hHeld ?_
           refine pu 22 41 (mk 67 8388607) (any_of HT_.out (by kernel_rfl)) ?_
           refine pu 23 42 (mk 67 16777215) (any_of HT_.out (by kernel_rfl)) ?_
           refine pu 24 43 (mk 67 33554431) (any_of HT_.out (by kernel_rfl)) ?_
           refine pu 25 44 (mk 67 67108863) (any_of HT_.out (by kernel_rfl)) ?_
           refine pu 26 45 (mk 67 134217727) (any_of HT_.out (by kernel_rfl)) ?_
           refine pu 27 46 (mk 67 268435455) (any_of HT_.out (by kernel_rfl)) ?_
           refine pu 28 47 (mk 67 536870911) (any_of HT_.out (by kernel_rfl)) ?_
           refine pu 29 48 (mk 67 1073741823) (any_of HT_.out (by kernel_rfl)) ?_
           refine pu 30 49 (mk 67 2147483647) (any_of HT_.out (by kernel_rfl)) ?_
           refine pu 31 50 (mk 67 4294967295) (any_of HT_.out (by kernel_rfl)) ?_
           refine pu 32 51 (mk 67 8589934591) (any_of HT_.out (by kernel_rfl)) ?_
           refine pu 33 52 (mk 67 17179869183) (any_of HT_.out (by kernel_rfl)) ?_
           refine pu 34 53 (mk 67 34359738367) (any_of HT_.out (by kernel_rfl)) ?_
           refine pu 35 54 (mk 67 68719476735) (any_of HT_.out (by kernel_rfl)) ?_
           refine pu 36 55 (mk 67 137438953471) (any_of HT_.out (by kernel_rfl)) ?_
           refine pu 37 56 (mk 67 274877906943) (any_of HT_.out (by kernel_rfl)) ?_
           refine pu 38 57 (mk 67 549755813887) (any_of HT_.out (by kernel_rfl)) ?_
           refine pu 39 58 (mk 67 1099511627775) (any_of HT_.out (by kernel_rfl)) ?_
           refine pu 40 59 (mk 67 2199023255551) (any_of HT_.out (by kernel_rfl)) ?_
           refine pu 41 60 (mk 67 4398046511103) (any_of HT_.out (by kernel_rfl)) ?_
           refine pu 42 61 (mk 67 8796093022207) (any_of HT_.out (by kernel_rfl)) ?_
           refine pu 43 62 (mk 67 17592186044415) (any_of HT_.out (by kernel_rfl)) ?_
           refine pu 44 63 (mk 67 35184372088831) (any_of HT_.out (by kernel_rfl)) ?_
           refine pu 45 64 (mk 67 70368744177663) (any_of HT_.out (by kernel_rfl)) ?_
           refine pu 46 65 (mk 67 140737488355327) (any_of HT_.out (by kernel_rfl)) ?_
           refine pu 47 66 (mk 67 281474976710655) (any_of HT_.out (by kernel_rfl)) ?_
           refine pu 48 67 (mk 67 562949953421311) (any_of HT_.out (by kernel_rfl)) ?_
           refine pu 49 68 (mk 67 1125899906842623) (any_of HT_.out (by kernel_rfl)) ?_
           refine pu 50 69 (mk 67 2251799813685247) (any_of HT_.out (by kernel_rfl)) ?_
           refine pu 51 70 (mk 67 4503599627370495) (any_of HT_.out (by kernel_rfl)) ?_
           refine pu 52 71 (mk 67 9007199254740991) (any_of HT_.out (by kernel_rfl)) ?_
           refine pu 53 72 (mk 67 18014398509481983) (any_of HT_.out (by kernel_rfl)) ?_
           refine pu 54 73 (mk 67 36028797018963967) (any_of HT_.out (by kernel_rfl)) ?_
           refine pu 55 74 (mk 67 72057594037927935) (any_of HT_.out (by kernel_rfl)) ?_
           refine pu 56 75 (mk 67 144115188075855871) (any_of HT_.out (by kernel_rfl)) ?_
           refine pu 57 76 (mk 67 288230376151711743) (any_of HT_.out (by kernel_rfl)) ?_
           refine pu 58 77 (mk 67 576460752303423487) (any_of HT_.out (by kernel_rfl)) ?_
           refine pu 59 78 (mk 67 1152921504606846975) (any_of HT_.out (by kernel_rfl)) ?_
           refine pu 60 79 (mk 67 2305843009213693951) (any_of HT_.out (by kernel_rfl)) ?_
           refine pu 61 80 (mk 67 4611686018427387903) (any_of HT_.out (by kernel_rfl)) ?_
           refine pu 62 81 (mk 67 9223372036854775807) (any_of HT_.out (by kernel_rfl)) ?_
           refine pu 63 82 (mk 67 18446744073709551615) (any_of HT_.out (by kernel_rfl)) ?_
           refine pu 64 83 (mk 67 36893488147419103231) (any_of HT_.out (by kernel_rfl)) ?_
           refine pu 65 84 (mk 67 73786976294838206463) (any_of HT_.out (by kernel_rfl)) ?_
           refine pu 66 85 (mk 67 147573952589676412927) (any_of HT_.out (by kernel_rfl)) ?_
           refine done_ (done_of HT_.out (by kernel_rfl)) ?_
           try go_wp2
           go_meet
           case rel => exact ⟨_, (true), rs, H', ⟨by have := HK1.out; first | omega | exact Nat.le_refl _⟩, ⟨bl HB⟩⟩
         ·rw [if_neg c9] at H
          have c9b0 : (((rd_T50 l0 x16_1).f0).toList == ((rd_T50 l1 x16_1).f0).toList) = false := beq_eq_false_iff_ne.mpr c9
          have c9b1 : (((rd_T50 l0 x16_1).f0).toList != ((rd_T50 l1 x16_1).f0).toList) = true := bne_iff_ne.mpr c9
          have H' := Aside0.mk H
          clear H
          try go_wp2
          have n0_ := Aside0.mk (below_drew1 HB.out)
          clear HB
          have HB := n0_
          clear n0_
          have p180 : 0 ≤ (x16_1 : Int) := oa
          have q180 : x16_1 < (l0.length : Int) := oa
          obtain ⟨ad180, A180_1, c180_1, A180_2, c180_2, A180_4, c180_4, e180, hx180_0, hx180_1, hx180_2, hx180_3, hx180_4, hl180_1, hi180_1, hl180_2, hi180_2, hl180_4, hi180_4⟩ := at_T50 HR0.out x16_1 p180 q180
          have hw180_4 := hx180_4
          have hw180_3 := hx180_3
          have hw180_2 := hx180_2
          have hw180_1 := hx180_1
          have hw180_0 := hx180_0
          cases e180
          replace hx180_0 := xb HB hx180_0
          replace hx180_1 := xb HB hx180_1
          replace hx180_2 := xb HB hx180_2
          replace hx180_3 := xb HB hx180_3
          replace hx180_4 := xb HB hx180_4
          have HR180_1 := Aside0.mk hi180_1
          have HC180_1 := Aside0.mk hl180_1
          clear hi180_1 hl180_1
          have HR180_2 := Aside0.mk hi180_2
          have HC180_2 := Aside0.mk hl180_2
          clear hi180_2 hl180_2
          have HR180_4 := Aside0.mk hi180_4
          have HC180_4 := Aside0.mk hl180_4
          clear hi180_4 hl180_4
          replace p180 := eq_true p180
          replace q180 := eq_true q180
          have p181 : 0 ≤ (x16_1 : Int) := oa
          have q181 : x16_1 < (l1.length : Int) := oa
          obtain ⟨ad181, A181_1, c181_1, A181_2, c181_2, A181_4, c181_4, e181, hx181_0, hx181_1, hx181_2, hx181_3, hx181_4, hl181_1, hi181_1, hl181_2, hi181_2, hl181_4, hi181_4⟩ := at_T50 HR1.out x16_1 p181 q181
          have hw181_4 := hx181_4
          have hw181_3 := hx181_3
          have hw181_2 := hx181_2
          have hw181_1 := hx181_1
          have hw181_0 := hx181_0
          cases e181
          replace hx181_0 := xb HB hx181_0
          replace hx181_1 := xb HB hx181_1
          replace hx181_2 := xb HB hx181_2
          replace hx181_3 := xb HB hx181_3
          replace hx181_4 := xb HB hx181_4
          have HR181_1 := Aside0.mk hi181_1
          have HC181_1 := Aside0.mk hl181_1
          clear hi181_1 hl181_1
          have HR181_2 := Aside0.mk hi181_2
          have HC181_2 := Aside0.mk hl181_2
          clear hi181_2 hl181_2
          have HR181_4 := Aside0.mk hi181_4
          have HC181_4 := Aside0.mk hl181_4
          clear hi181_4 hl181_4
          replace p181 := eq_true p181
          replace q181 := eq_true q181
          refine start_ (n := 67) (S := fun w' => w'.cell? (ad180.add ((x16_1).toNat * 5)) = some (.string ((rd_T50 l0 x16_1).f0)) ∧ w'.cell? ⟨(ad180.add ((x16_1).toNat * 5)).block, (ad180.add ((x16_1).toNat * 5)).off + 1, none⟩ = some (.slice A180_1 ((rd_T50 l0 x16_1).f1).length c180_1) ∧ w'.cell? ⟨(ad180.add ((x16_1).toNat * 5)).block, (ad180.add ((x16_1).toNat * 5)).off + 2, none⟩ = some (.slice A180_2 ((rd_T50 l0 x16_1).f2).length c180_2) ∧ w'.cell? ⟨(ad180.add ((x16_1).toNat * 5)).block, (ad180.add ((x16_1).toNat * 5)).off + 3, none⟩ = some (.int .i64 ((rd_T50 l0 x16_1).f3)) ∧ w'.cell? ⟨(ad180.add ((x16_1).toNat * 5)).block, (ad180.add ((x16_1).toNat * 5)).off + 4, none⟩ = some (.slice A180_4 ((rd_T50 l0 x16_1).f4).length c180_4) ∧ w'.cell? (ad181.add ((x16_1).toNat * 5)) = some (.string ((rd_T50 l1 x16_1).f0)) ∧ w'.cell? ⟨(ad181.add ((x16_1).toNat * 5)).block, (ad181.add ((x16_1).toNat * 5)).off + 1, none⟩ = some (.slice A181_1 ((rd_T50 l1 x16_1).f1).length c181_1) ∧ w'.cell? ⟨(ad181.add ((x16_1).toNat * 5)).block, (ad181.add ((x16_1).toNat * 5)).off + 2, none⟩ = some (.slice A181_2 ((rd_T50 l1 x16_1).f2).length c181_2) ∧ w'.cell? ⟨(ad181.add ((x16_1).toNat * 5)).block, (ad181.add ((x16_1).toNat * 5)).off + 3, none⟩ = some (.int .i64 ((rd_T50 l1 x16_1).f3)) ∧ w'.cell? ⟨(ad181.add ((x16_1).toNat * 5)).block, (ad181.add ((x16_1).toNat * 5)).off + 4, none⟩ = some (.slice A181_4 ((rd_T50 l1 x16_1).f4).length c181_4)) (ds := []) (mk 67 0) (by kernel_rfl) rfl (by kernel_rfl) ⟨(xb HB hw180_0), (xb HB hw180_1), (xb HB hw180_2), (xb HB hw180_3), (xb HB hw180_4), (xb HB hw181_0), (xb HB hw181_1), (xb HB hw181_2), (xb HB hw181_3), (xb HB hw181_4)⟩ (fun hHeld => ?_); refine with_tabW fluxionref29_Same.tab6 fluxionref29_Same.bits6 (fun HT_ HW_ => ?_)
          generalize wr.drew = w24 at HB HR180_1 HR180_2 HR180_4 HR181_1 HR181_2 HR181_4 hx180_0 hx180_1 hx180_2 hx180_3 hx180_4 hx181_0 hx181_1 hx181_2 hx181_3 hx181_4 hHeld ⊢
          refine pu 0 19 (mk 67 1) (any_of HT_.out (by kernel_rfl)) ?_
          refine pu 1 20 (mk 67 3) (any_of HT_.out (by kernel_rfl)) ?_
          refine pu 2 21 (mk 67 7) (any_of HT_.out (by kernel_rfl)) ?_
          refine pu 3 22 (mk 67 15) (any_of HT_.out (by kernel_rfl)) ?_
          refine pu 5 24 (mk 67 47) (any_of HT_.out (by kernel_rfl)) ?_
          refine pu 6 25 (mk 67 111) (any_of HT_.out (by kernel_rfl)) ?_
          refine pu 7 26 (mk 67 239) (any_of HT_.out (by kernel_rfl)) ?_
          refine pu 8 27 (mk 67 495) (any_of HT_.out (by kernel_rfl)) ?_
          refine tk 4 23 (mk 67 511) (take_ofW HT_.out HW_.out (by kernel_rfl)) hHeld ?_
          refine tk 9 28 (mk 67 1023) (take_ofW HT_.out HW_.out (by kernel_rfl)) hHeld ?_
          refine pu 10 29 (mk 67 2047) (any_of HT_.out (by kernel_rfl)) ?_
          refine pu 11 30 (mk 67 4095) (any_of HT_.out (by kernel_rfl)) ?_
          refine pu 12 31 (mk 67 8191) (any_of HT_.out (by kernel_rfl)) ?_
          refine pu 13 32 (mk 67 16383) (any_of HT_.out (by kernel_rfl)) ?_
          refine pu 14 33 (mk 67 32767) (any_of HT_.out (by kernel_rfl)) ?_
          refine pu 15 34 (mk 67 65535) (any_of HT_.out (by kernel_rfl)) ?_
          refine pu 16 35 (mk 67 131071) (any_of HT_.out (by kernel_rfl)) ?_
          refine pu 17 36 (mk 67 262143) (any_of HT_.out (by kernel_rfl)) ?_
          refine pu 18 37 (mk 67 524287) (any_of HT_.out (by kernel_rfl)) ?_
          refine pu 19 38 (mk 67 1048575) (any_of HT_.out (by kernel_rfl)) ?_
          refine pu 20 39 (mk 67 2097151) (any_of HT_.out (by kernel_rfl)) ?_
          refine pu 21 40 (mk 67 4194303) (any_of HT_.out (by kernel_rfl)) ?_
          refine pu 22 41 (mk 67 8388607) (any_of HT_.out (by kernel_rfl)) ?_
          refine pu 23 42 (mk 67 16777215) (any_of HT_.out (by kernel_rfl)) ?_
          refine pu 24 43 (mk 67 33554431) (any_of HT_.out (by kernel_rfl)) ?_
          refine pu 25 44 (mk 67 67108863) (any_of HT_.out (by kernel_rfl)) ?_
          refine pu 26 45 (mk 67 134217727) (any_of HT_.out (by kernel_rfl)) ?_
          refine pu 27 46 (mk 67 268435455) (any_of HT_.out (by kernel_rfl)) ?_
          refine pu 28 47 (mk 67 536870911) (any_of HT_.out (by kernel_rfl)) ?_
          refine pu 29 48 (mk 67 1073741823) (any_of HT_.out (by kernel_rfl)) ?_
          refine pu 30 49 (mk 67 2147483647) (any_of HT_.out (by kernel_rfl)) ?_
          refine pu 31 50 (mk 67 4294967295) (any_of HT_.out (by kernel_rfl)) ?_
          refine pu 32 51 (mk 67 8589934591) (any_of HT_.out (by kernel_rfl)) ?_
          refine pu 33 52 (mk 67 17179869183) (any_of HT_.out (by kernel_rfl)) ?_
          refine pu 34 53 (mk 67 34359738367) (any_of HT_.out (by kernel_rfl)) ?_
          refine pu 35 54 (mk 67 68719476735) (any_of HT_.out (by kernel_rfl)) ?_
          refine pu 36 55 (mk 67 137438953471) (any_of HT_.out (by kernel_rfl)) ?_
          refine pu 37 56 (mk 67 274877906943) (any_of HT_.out (by kernel_rfl)) ?_
          refine pu 38 57 (mk 67 549755813887) (any_of HT_.out (by kernel_rfl)) ?_
          refine pu 39 58 (mk 67 1099511627775) (any_of HT_.out (by kernel_rfl)) ?_
          refine pu 40 59 (mk 67 2199023255551) (any_of HT_.out (by kernel_rfl)) ?_
          refine pu 41 60 (mk 67 4398046511103) (any_of HT_.out (by kernel_rfl)) ?_
          refine pu 42 61 (mk 67 8796093022207) (any_of HT_.out (by kernel_rfl)) ?_
          refine pu 43 62 (mk 67 17592186044415) (any_of HT_.out (by kernel_rfl)) ?_
          refine pu 44 63 (mk 67 35184372088831) (any_of HT_.out (by kernel_rfl)) ?_
          refine pu 45 64 (mk 67 70368744177663) (any_of HT_.out (by kernel_rfl)) ?_
          refine pu 46 65 (mk 67 140737488355327) (any_of HT_.out (by kernel_rfl)) ?_
          refine pu 47 66 (mk 67 281474976710655) (any_of HT_.out (by kernel_rfl)) ?_
          refine pu 48 67 (mk 67 562949953421311) (any_of HT_.out (by kernel_rfl)) ?_
          refine pu 49 68 (mk 67 1125899906842623) (any_of HT_.out (by kernel_rfl)) ?_
          refine pu 50 69 (mk 67 2251799813685247) (any_of HT_.out (by kernel_rfl)) ?_
          refine pu 51 70 (mk 67 4503599627370495) (any_of HT_.out (by kernel_rfl)) ?_
          refine pu 52 71 (mk 67 9007199254740991) (any_of HT_.out (by kernel_rfl)) ?_
          refine pu 53 72 (mk 67 18014398509481983) (any_of HT_.out (by kernel_rfl)) ?_
          refine pu 54 73 (mk 67 36028797018963967) (any_of HT_.out (by kernel_rfl)) ?_
          refine pu 55 74 (mk 67 72057594037927935) (any_of HT_.out (by kernel_rfl)) ?_
          refine pu 56 75 (mk 67 144115188075855871) (any_of HT_.out (by kernel_rfl)) ?_
          refine pu 57 76 (mk 67 288230376151711743) (any_of HT_.out (by kernel_rfl)) ?_
          refine pu 58 77 (mk 67 576460752303423487) (any_of HT_.out (by kernel_rfl)) ?_
          refine pu 59 78 (mk 67 1152921504606846975) (any_of HT_.out (by kernel_rfl)) ?_
          refine pu 60 79 (mk 67 2305843009213693951) (any_of HT_.out (by kernel_rfl)) ?_
          refine pu 61 80 (mk 67 4611686018427387903) (any_of HT_.out (by kernel_rfl)) ?_
          refine pu 62 81 (mk 67 9223372036854775807) (any_of HT_.out (by kernel_rfl)) ?_
          refine pu 63 82 (mk 67 18446744073709551615) (any_of HT_.out (by kernel_rfl)) ?_
          refine pu 64 83 (mk 67 36893488147419103231) (any_of HT_.out (by kernel_rfl)) ?_
          refine pu 65 84 (mk 67 73786976294838206463) (any_of HT_.out (by kernel_rfl)) ?_
          refine pu 66 85 (mk 67 147573952589676412927) (any_of HT_.out (by kernel_rfl)) ?_
          refine done_ (done_of HT_.out (by kernel_rfl)) ?_
          try go_wp2
          go_meet
          case rel => exact ⟨_, (true), rs, H', ⟨by have := HK1.out; first | omega | exact Nat.le_refl _⟩, ⟨bl HB⟩⟩
        ·rw [if_neg c8] at H
         exact absurd H (by simp)
       ·rw [if_neg c7] at H
        exact absurd H (by simp)
      ·rw [if_neg c6] at H
       exact absurd H (by simp)
     case rest =>
      clear HC5
      (try clear c1); (try clear p1); (try clear q1); (try clear hx1); (try clear p2); (try clear c6); (try clear c7); (try clear c8); (try clear c9); (try clear c9b0); (try clear c9b1); (try clear c18); (try clear p18); (try clear q18); (try clear hx18); (try clear hx180_0); (try clear hx180_1); (try clear hx180_2); (try clear hx180_3); (try clear hx180_4); (try clear hx181_0); (try clear hx181_1); (try clear hx181_2); (try clear hx181_3); (try clear hx181_4); (try clear p180); (try clear p181); (try clear q180); (try clear q181)
      obtain ⟨kq, x85_4, rfl, HA, HJ4, HB⟩ := hcut
      cases kq with
      | zero => exact absurd HA.out (by simp [fluxionref29_Same.j1])
      | succ kj4 =>
       have H := HA.out
       clear HA
       simp only [fluxionref29_Same.j1] at H
       by_cases c25 : x85_4 = true
       ·subst c25
        have H1 : (some false) = some r := by rw [if_pos rfl] at H; exact H
        clear H
        have H := H1
        clear H1
        obtain rfl := Option.some.inj H
        go_wp2
        go_ret
        exact ⟨re, bl HB⟩
       ·replace c25 := Bool.eq_false_iff.mpr c25
        subst c25
        have H1 : (if 0 ≤ x16_1 then (if x16_1 < (l0.length : Int) then (fluxionref29_Same.l1 kj4 l0 l1 x16_1 (l0.length : Int) x16_1 ((rd_T50 l0 x16_1).f4) (((rd_T50 l0 x16_1).f4).length : Int) 0) else (none)) else (none)) = some r := by rw [if_neg (show ¬ (false = true) by decide)] at H; exact H
        clear H
        have H := H1
        clear H1
        by_cases c26 : 0 ≤ x16_1
        ·rw [if_pos c26] at H
         have c26b0 : decide (0 ≤ x16_1) = true := decide_eq_true c26
         clear c26
         by_cases c27 : x16_1 < (l0.length : Int)
         ·rw [if_pos c27] at H
          have c27b0 : decide (x16_1 < (l0.length : Int)) = true := decide_eq_true c27
          clear c27
          have H' := Aside0.mk H
          clear H
          have p192 : 0 ≤ (x16_1 : Int) := oa
          have q192 : x16_1 < (l0.length : Int) := oa
          obtain ⟨ad192, A192_1, c192_1, A192_2, c192_2, A192_4, c192_4, e192, hx192_0, hx192_1, hx192_2, hx192_3, hx192_4, hl192_1, hi192_1, hl192_2, hi192_2, hl192_4, hi192_4⟩ := at_T50 HR0.out x16_1 p192 q192
          cases e192
          replace hx192_0 := xb HB hx192_0
          replace hx192_1 := xb HB hx192_1
          replace hx192_2 := xb HB hx192_2
          replace hx192_3 := xb HB hx192_3
          replace hx192_4 := xb HB hx192_4
          have HR192_1 := Aside0.mk hi192_1
          have HC192_1 := Aside0.mk hl192_1
          clear hi192_1 hl192_1
          have HR192_2 := Aside0.mk hi192_2
          have HC192_2 := Aside0.mk hl192_2
          clear hi192_2 hl192_2
          have HR192_4 := Aside0.mk hi192_4
          have HC192_4 := Aside0.mk hl192_4
          clear hi192_4 hl192_4
          replace p192 := eq_true p192
          replace q192 := eq_true q192
          go_wp2
          go_loopg [92] kj4 (fun kq v92 w' => ∃ (x92_3 : Int), v92 = .int .i64 x92_3 ∧ Aside0 (fluxionref29_Same.l1 kq l0 l1 x16_1 (l0.length : Int) x16_1 ((rd_T50 l0 x16_1).f4) (((rd_T50 l0 x16_1).f4).length : Int) x92_3 = some r) ∧ Aside0 (kq ≤ kj4) ∧ Aside0 (Below w.heap.size w w'))
          case atStart => exact ⟨(0), rs, H', ⟨Nat.le_refl _⟩, ⟨bl HB⟩⟩
          case round =>
           clear H'
           (try clear c1); (try clear p1); (try clear q1); (try clear hx1); (try clear c2); (try clear p2); (try clear c6); (try clear c7); (try clear c8); (try clear c9); (try clear c9b0); (try clear c9b1); (try clear c18); (try clear p18); (try clear q18); (try clear hx18); (try clear c19); (try clear p19); (try clear q19); (try clear hx19); (try clear c25); (try clear c26); (try clear c26b0); (try clear c27); (try clear c27b0); (try clear hx180_0); (try clear hx180_1); (try clear hx180_2); (try clear hx180_3); (try clear hx180_4); (try clear hx181_0); (try clear hx181_1); (try clear hx181_2); (try clear hx181_3); (try clear hx181_4); (try clear hx192_0); (try clear hx192_1); (try clear hx192_2); (try clear hx192_3); (try clear hx192_4); (try clear p1); (try clear p18); (try clear p180); (try clear p181); (try clear p192); (try clear p2); (try clear q1); (try clear q18); (try clear q180); (try clear q181); (try clear q192)
           obtain ⟨x92_3, rfl, HA, HK3, HB⟩ := hrel
           cases gk with
           | zero => exact absurd HA.out (by simp [fluxionref29_Same.l1])
           | succ k3 =>
            have H := HA.out
            clear HA
            simp only [fluxionref29_Same.l1] at H
            by_cases c28 : x92_3 < (((rd_T50 l0 x16_1).f4).length : Int)
            focus
             rw [if_pos c28] at H
             have c28b0 : decide (x92_3 < (((rd_T50 l0 x16_1).f4).length : Int)) = true := decide_eq_true c28
             clear c28
             by_cases c29 : 0 ≤ x92_3
             focus
              rw [if_pos c29] at H
              have c29b0 : decide (0 ≤ x92_3) = true := decide_eq_true c29
              clear c29
              by_cases c30 : x92_3 < (((rd_T50 l0 x16_1).f4).length : Int)
              focus
               rw [if_pos c30] at H
               have c30b0 : decide (x92_3 < (((rd_T50 l0 x16_1).f4).length : Int)) = true := decide_eq_true c30
               clear c30
               by_cases c31 : 0 ≤ x16_1
               focus
                rw [if_pos c31] at H
                have c31b0 : decide (0 ≤ x16_1) = true := decide_eq_true c31
                clear c31
                by_cases c32 : x16_1 < (l1.length : Int)
                focus
                 rw [if_pos c32] at H
                 have c32b0 : decide (x16_1 < (l1.length : Int)) = true := decide_eq_true c32
                 clear c32
                 by_cases c33 : x92_3 < (((rd_T50 l1 x16_1).f4).length : Int)
                 focus
                  rw [if_pos c33] at H
                  have c33b0 : decide (x92_3 < (((rd_T50 l1 x16_1).f4).length : Int)) = true := decide_eq_true c33
                  clear c33
                  by_cases c34 : ((rd_T63 ((rd_T50 l0 x16_1).f4) x92_3).f0) = ((rd_T63 ((rd_T50 l1 x16_1).f4) x92_3).f0)
                  focus
                   rw [if_pos c34] at H
                   have c34b0 : (((rd_T63 ((rd_T50 l0 x16_1).f4) x92_3).f0) == ((rd_T63 ((rd_T50 l1 x16_1).f4) x92_3).f0)) = true := beq_iff_eq.mpr c34
                   have c34b1 : (((rd_T63 ((rd_T50 l0 x16_1).f4) x92_3).f0) != ((rd_T63 ((rd_T50 l1 x16_1).f4) x92_3).f0)) = false := bne_eq_false_iff_eq.mpr c34
                   clear c34
                   by_cases c35 : ((rd_T63 ((rd_T50 l0 x16_1).f4) x92_3).f1) = ((rd_T63 ((rd_T50 l1 x16_1).f4) x92_3).f1)
                   focus
                    rw [if_pos c35] at H
                    have c35b0 : (((rd_T63 ((rd_T50 l0 x16_1).f4) x92_3).f1) == ((rd_T63 ((rd_T50 l1 x16_1).f4) x92_3).f1)) = true := beq_iff_eq.mpr c35
                    have c35b1 : (((rd_T63 ((rd_T50 l0 x16_1).f4) x92_3).f1) != ((rd_T63 ((rd_T50 l1 x16_1).f4) x92_3).f1)) = false := bne_eq_false_iff_eq.mpr c35
                    clear c35
                    by_cases c36 : ((rd_T63 ((rd_T50 l0 x16_1).f4) x92_3).f2) = ((rd_T63 ((rd_T50 l1 x16_1).f4) x92_3).f2)
                    focus
                     rw [if_pos c36] at H
                     have c36b0 : (((rd_T63 ((rd_T50 l0 x16_1).f4) x92_3).f2) == ((rd_T63 ((rd_T50 l1 x16_1).f4) x92_3).f2)) = true := beq_iff_eq.mpr c36
                     have c36b1 : (((rd_T63 ((rd_T50 l0 x16_1).f4) x92_3).f2) != ((rd_T63 ((rd_T50 l1 x16_1).f4) x92_3).f2)) = false := bne_eq_false_iff_eq.mpr c36
                     clear c36
                     by_cases c37 : ((rd_T63 ((rd_T50 l0 x16_1).f4) x92_3).f3) = ((rd_T63 ((rd_T50 l1 x16_1).f4) x92_3).f3)
                     focus
                      rw [if_pos c37] at H
                      have c37b0 : (((rd_T63 ((rd_T50 l0 x16_1).f4) x92_3).f3) == ((rd_T63 ((rd_T50 l1 x16_1).f4) x92_3).f3)) = true := beq_iff_eq.mpr c37
                      have c37b1 : (((rd_T63 ((rd_T50 l0 x16_1).f4) x92_3).f3) != ((rd_T63 ((rd_T50 l1 x16_1).f4) x92_3).f3)) = false := bne_eq_false_iff_eq.mpr c37
                      clear c37
                      replace H := Option.bind_eq_some_iff.mp H
                      obtain ⟨t198, A380, H⟩ := H
                      (try dsimp only at H)
                      have A38 := Aside0.mk A380
                      clear A380
                      by_cases c39 : t198 = true
                      focus
                       subst c39
                       have H1 : (fluxionref29_Same.l1 k3 l0 l1 x16_1 (l0.length : Int) x16_1 ((rd_T50 l0 x16_1).f4) (((rd_T50 l0 x16_1).f4).length : Int) (wrap64 (x92_3 + 1))) = some r := by rw [if_pos rfl] at H; exact H
                       clear H
                       have H := H1
                       clear H1
                       have H' := Aside0.mk H
                       clear H
                       have p193 : 0 ≤ (x92_3 : Int) := oa
                       have q193 : x92_3 < (((rd_T50 l0 x16_1).f4).length : Int) := oa
                       obtain ⟨ad193, A193_6, c193_6, A193_7, c193_7, e193, hx193_0, hx193_1, hx193_2, hx193_3, hx193_4, hx193_5, hx193_6, hx193_7, hl193_6, hi193_6, hl193_7, hi193_7⟩ := at_T63 HR192_4.out x92_3 p193 q193
                       cases e193
                       replace hx193_0 := xb HB hx193_0
                       replace hx193_1 := xb HB hx193_1
                       replace hx193_2 := xb HB hx193_2
                       replace hx193_3 := xb HB hx193_3
                       replace hx193_4 := xb HB hx193_4
                       replace hx193_5 := xb HB hx193_5
                       replace hx193_6 := xb HB hx193_6
                       replace hx193_7 := xb HB hx193_7
                       have HR193_6 := Aside0.mk hi193_6
                       have HC193_6 := Aside0.mk hl193_6
                       clear hi193_6 hl193_6
                       have HR193_7 := Aside0.mk hi193_7
                       have HC193_7 := Aside0.mk hl193_7
                       clear hi193_7 hl193_7
                       replace p193 := eq_true p193
                       replace q193 := eq_true q193
                      rotate_left 1
                      focus
                       replace c39 := Bool.eq_false_iff.mpr c39
                       subst c39
                       have H1 : (some false) = some r := by rw [if_neg (show ¬ (false = true) by decide)] at H; exact H
                       clear H
                       have H := H1
                       clear H1
                       obtain rfl := Option.some.inj H
                       have p193 : 0 ≤ (x92_3 : Int) := oa
                       have q193 : x92_3 < (((rd_T50 l0 x16_1).f4).length : Int) := oa
                       obtain ⟨ad193, A193_6, c193_6, A193_7, c193_7, e193, hx193_0, hx193_1, hx193_2, hx193_3, hx193_4, hx193_5, hx193_6, hx193_7, hl193_6, hi193_6, hl193_7, hi193_7⟩ := at_T63 HR192_4.out x92_3 p193 q193
                       cases e193
                       replace hx193_0 := xb HB hx193_0
                       replace hx193_1 := xb HB hx193_1
                       replace hx193_2 := xb HB hx193_2
                       replace hx193_3 := xb HB hx193_3
                       replace hx193_4 := xb HB hx193_4
                       replace hx193_5 := xb HB hx193_5
                       replace hx193_6 := xb HB hx193_6
                       replace hx193_7 := xb HB hx193_7
                       have HR193_6 := Aside0.mk hi193_6
                       have HC193_6 := Aside0.mk hl193_6
                       clear hi193_6 hl193_6
                       have HR193_7 := Aside0.mk hi193_7
                       have HC193_7 := Aside0.mk hl193_7
                       clear hi193_7 hl193_7
                       replace p193 := eq_true p193
                       replace q193 := eq_true q193
                      rotate_left 1
                     rotate_left 2
                     focus
                      rw [if_neg c37] at H
                      have c37b0 : (((rd_T63 ((rd_T50 l0 x16_1).f4) x92_3).f3) == ((rd_T63 ((rd_T50 l1 x16_1).f4) x92_3).f3)) = false := beq_eq_false_iff_ne.mpr c37
                      have c37b1 : (((rd_T63 ((rd_T50 l0 x16_1).f4) x92_3).f3) != ((rd_T63 ((rd_T50 l1 x16_1).f4) x92_3).f3)) = true := bne_iff_ne.mpr c37
                      obtain rfl := Option.some.inj H
                      have p193 : 0 ≤ (x92_3 : Int) := oa
                      have q193 : x92_3 < (((rd_T50 l0 x16_1).f4).length : Int) := oa
                      obtain ⟨ad193, A193_6, c193_6, A193_7, c193_7, e193, hx193_0, hx193_1, hx193_2, hx193_3, hx193_4, hx193_5, hx193_6, hx193_7, hl193_6, hi193_6, hl193_7, hi193_7⟩ := at_T63 HR192_4.out x92_3 p193 q193
                      cases e193
                      replace hx193_0 := xb HB hx193_0
                      replace hx193_1 := xb HB hx193_1
                      replace hx193_2 := xb HB hx193_2
                      replace hx193_3 := xb HB hx193_3
                      replace hx193_4 := xb HB hx193_4
                      replace hx193_5 := xb HB hx193_5
                      replace hx193_6 := xb HB hx193_6
                      replace hx193_7 := xb HB hx193_7
                      have HR193_6 := Aside0.mk hi193_6
                      have HC193_6 := Aside0.mk hl193_6
                      clear hi193_6 hl193_6
                      have HR193_7 := Aside0.mk hi193_7
                      have HC193_7 := Aside0.mk hl193_7
                      clear hi193_7 hl193_7
                      replace p193 := eq_true p193
                      replace q193 := eq_true q193
                     rotate_left 1
                    rotate_left 3
                    focus
                     rw [if_neg c36] at H
                     have c36b0 : (((rd_T63 ((rd_T50 l0 x16_1).f4) x92_3).f2) == ((rd_T63 ((rd_T50 l1 x16_1).f4) x92_3).f2)) = false := beq_eq_false_iff_ne.mpr c36
                     have c36b1 : (((rd_T63 ((rd_T50 l0 x16_1).f4) x92_3).f2) != ((rd_T63 ((rd_T50 l1 x16_1).f4) x92_3).f2)) = true := bne_iff_ne.mpr c36
                     obtain rfl := Option.some.inj H
                     have p193 : 0 ≤ (x92_3 : Int) := oa
                     have q193 : x92_3 < (((rd_T50 l0 x16_1).f4).length : Int) := oa
                     obtain ⟨ad193, A193_6, c193_6, A193_7, c193_7, e193, hx193_0, hx193_1, hx193_2, hx193_3, hx193_4, hx193_5, hx193_6, hx193_7, hl193_6, hi193_6, hl193_7, hi193_7⟩ := at_T63 HR192_4.out x92_3 p193 q193
                     cases e193
                     replace hx193_0 := xb HB hx193_0
                     replace hx193_1 := xb HB hx193_1
                     replace hx193_2 := xb HB hx193_2
                     replace hx193_3 := xb HB hx193_3
                     replace hx193_4 := xb HB hx193_4
                     replace hx193_5 := xb HB hx193_5
                     replace hx193_6 := xb HB hx193_6
                     replace hx193_7 := xb HB hx193_7
                     have HR193_6 := Aside0.mk hi193_6
                     have HC193_6 := Aside0.mk hl193_6
                     clear hi193_6 hl193_6
                     have HR193_7 := Aside0.mk hi193_7
                     have HC193_7 := Aside0.mk hl193_7
                     clear hi193_7 hl193_7
                     replace p193 := eq_true p193
                     replace q193 := eq_true q193
                    rotate_left 1
                   rotate_left 4
                   focus
                    rw [if_neg c35] at H
                    have c35b0 : (((rd_T63 ((rd_T50 l0 x16_1).f4) x92_3).f1) == ((rd_T63 ((rd_T50 l1 x16_1).f4) x92_3).f1)) = false := beq_eq_false_iff_ne.mpr c35
                    have c35b1 : (((rd_T63 ((rd_T50 l0 x16_1).f4) x92_3).f1) != ((rd_T63 ((rd_T50 l1 x16_1).f4) x92_3).f1)) = true := bne_iff_ne.mpr c35
                    obtain rfl := Option.some.inj H
                    have p193 : 0 ≤ (x92_3 : Int) := oa
                    have q193 : x92_3 < (((rd_T50 l0 x16_1).f4).length : Int) := oa
                    obtain ⟨ad193, A193_6, c193_6, A193_7, c193_7, e193, hx193_0, hx193_1, hx193_2, hx193_3, hx193_4, hx193_5, hx193_6, hx193_7, hl193_6, hi193_6, hl193_7, hi193_7⟩ := at_T63 HR192_4.out x92_3 p193 q193
                    cases e193
                    replace hx193_0 := xb HB hx193_0
                    replace hx193_1 := xb HB hx193_1
                    replace hx193_2 := xb HB hx193_2
                    replace hx193_3 := xb HB hx193_3
                    replace hx193_4 := xb HB hx193_4
                    replace hx193_5 := xb HB hx193_5
                    replace hx193_6 := xb HB hx193_6
                    replace hx193_7 := xb HB hx193_7
                    have HR193_6 := Aside0.mk hi193_6
                    have HC193_6 := Aside0.mk hl193_6
                    clear hi193_6 hl193_6
                    have HR193_7 := Aside0.mk hi193_7
                    have HC193_7 := Aside0.mk hl193_7
                    clear hi193_7 hl193_7
                    replace p193 := eq_true p193
                    replace q193 := eq_true q193
                   rotate_left 1
                  rotate_left 5
                  focus
                   rw [if_neg c34] at H
                   have c34b0 : (((rd_T63 ((rd_T50 l0 x16_1).f4) x92_3).f0) == ((rd_T63 ((rd_T50 l1 x16_1).f4) x92_3).f0)) = false := beq_eq_false_iff_ne.mpr c34
                   have c34b1 : (((rd_T63 ((rd_T50 l0 x16_1).f4) x92_3).f0) != ((rd_T63 ((rd_T50 l1 x16_1).f4) x92_3).f0)) = true := bne_iff_ne.mpr c34
                   obtain rfl := Option.some.inj H
                   have p193 : 0 ≤ (x92_3 : Int) := oa
                   have q193 : x92_3 < (((rd_T50 l0 x16_1).f4).length : Int) := oa
                   obtain ⟨ad193, A193_6, c193_6, A193_7, c193_7, e193, hx193_0, hx193_1, hx193_2, hx193_3, hx193_4, hx193_5, hx193_6, hx193_7, hl193_6, hi193_6, hl193_7, hi193_7⟩ := at_T63 HR192_4.out x92_3 p193 q193
                   cases e193
                   replace hx193_0 := xb HB hx193_0
                   replace hx193_1 := xb HB hx193_1
                   replace hx193_2 := xb HB hx193_2
                   replace hx193_3 := xb HB hx193_3
                   replace hx193_4 := xb HB hx193_4
                   replace hx193_5 := xb HB hx193_5
                   replace hx193_6 := xb HB hx193_6
                   replace hx193_7 := xb HB hx193_7
                   have HR193_6 := Aside0.mk hi193_6
                   have HC193_6 := Aside0.mk hl193_6
                   clear hi193_6 hl193_6
                   have HR193_7 := Aside0.mk hi193_7
                   have HC193_7 := Aside0.mk hl193_7
                   clear hi193_7 hl193_7
                   replace p193 := eq_true p193
                   replace q193 := eq_true q193
                  rotate_left 1
                 rotate_left 6
                 focus
                  rw [if_neg c33] at H
                  exact absurd H (by simp)
                rotate_left 6
                focus
                 rw [if_neg c32] at H
                 exact absurd H (by simp)
               rotate_left 6
               focus
                rw [if_neg c31] at H
                exact absurd H (by simp)
              rotate_left 6
              focus
               rw [if_neg c30] at H
               exact absurd H (by simp)
             rotate_left 6
             focus
              rw [if_neg c29] at H
              exact absurd H (by simp)
            rotate_left 6
            focus
             rw [if_neg c28] at H
             have c28b0 : decide (x92_3 < (((rd_T50 l0 x16_1).f4).length : Int)) = false := decide_eq_false c28
             clear c28
             have H' := Aside0.mk H
             clear H
             go_wp2
             go_roundg k3
             case measure => have := HK1.out; have := HJ4.out; have := HK3.out; omega
             case rel => exact ⟨(wrap64 (x16_1 + 1)), rs, H', ⟨by have := HK1.out; have := HJ4.out; have := HK3.out; omega⟩, ⟨bl HB⟩⟩
            all_goals (go_wp2_with (first | ((with_reducible refine gate_dst (N := 7) rfl ?_); (try (refine gate_guard (by rfl) ?_; dsimp only)); refine bx (N := 7) (cs := #[.int .i64 0, .int .i64 0, .int .i64 0, .int .i64 0, .int .i64 0, .bool false, .slice none 0 0, .slice none 0 0]) (t := 63) ?_; intro gb194 hg wq1 hbox hb; have BK194 := Aside0.mk (hbox); have GW194 := (gz hg HB : Aside0 (w.heap.size ≤ gb194)); have GE194 := (gz hg HB : Aside0 (w.heap.size ≤ gb194)); replace HB := Aside0.mk (below_step (bl HB) hb); clear hb hbox hg; have hczq1_0 := blk_cell BK194.out 0; have hczq1_1 := blk_cell BK194.out 1; have hczq1_2 := blk_cell BK194.out 2; have hczq1_3 := blk_cell BK194.out 3; have hczq1_4 := blk_cell BK194.out 4; have hczq1_5 := blk_cell BK194.out 5; have hczq1_6 := blk_cell BK194.out 6; have hczq1_7 := blk_cell BK194.out 7; have hfzq1_0 := blk_frozen BK194.out 0; have hfzq1_1 := blk_frozen BK194.out 1; have hfzq1_2 := blk_frozen BK194.out 2; have hfzq1_3 := blk_frozen BK194.out 3; have hfzq1_4 := blk_frozen BK194.out 4; have hfzq1_5 := blk_frozen BK194.out 5; have hfzq1_6 := blk_frozen BK194.out 6; have hfzq1_7 := blk_frozen BK194.out 7; have p195 : 0 ≤ (x16_1 : Int) := oa; have q195 : x16_1 < (l1.length : Int) := oa; obtain ⟨ad195, A195_1, c195_1, A195_2, c195_2, A195_4, c195_4, e195, hx195_0, hx195_1, hx195_2, hx195_3, hx195_4, hl195_1, hi195_1, hl195_2, hi195_2, hl195_4, hi195_4⟩ := at_T50 HR1.out x16_1 p195 q195; cases e195; have hn195_0 : ad195.block ≠ gb194 := hne hx195_0 GW194; have hn195_1 : ad195.block ≠ gb194 := hne hx195_0 GW194; have hn195_2 : ad195.block ≠ gb194 := hne hx195_0 GW194; have hn195_3 : ad195.block ≠ gb194 := hne hx195_0 GW194; have hn195_4 : ad195.block ≠ gb194 := hne hx195_0 GW194; have hn195_5 : ad195.block ≠ gb194 := hne hx195_0 GW194; have hn195_6 : ad195.block ≠ gb194 := hne hx195_0 GW194; have hn195_7 : ad195.block ≠ gb194 := hne hx195_0 GW194; replace hx195_0 := xb HB hx195_0; replace hx195_1 := xb HB hx195_1; replace hx195_2 := xb HB hx195_2; replace hx195_3 := xb HB hx195_3; replace hx195_4 := xb HB hx195_4; have HR195_1 := Aside0.mk hi195_1; have HC195_1 := Aside0.mk hl195_1; clear hi195_1 hl195_1; have HR195_2 := Aside0.mk hi195_2; have HC195_2 := Aside0.mk hl195_2; clear hi195_2 hl195_2; have HR195_4 := Aside0.mk hi195_4; have HC195_4 := Aside0.mk hl195_4; clear hi195_4 hl195_4; have hF_ := fA hx195_0 gb194 [(0, .int .i64 ((rd_T63 ((rd_T50 l0 x16_1).f4) x92_3).f0)), (1, .int .i64 ((rd_T63 ((rd_T50 l0 x16_1).f4) x92_3).f1)), (2, .int .i64 ((rd_T63 ((rd_T50 l0 x16_1).f4) x92_3).f2)), (3, .int .i64 ((rd_T63 ((rd_T50 l0 x16_1).f4) x92_3).f3)), (4, .int .i64 ((rd_T63 ((rd_T50 l0 x16_1).f4) x92_3).f4.f0)), (5, .bool ((rd_T63 ((rd_T50 l0 x16_1).f4) x92_3).f4.f1)), (6, .slice A193_6 ((rd_T63 ((rd_T50 l0 x16_1).f4) x92_3).f4.f2).length c193_6), (7, .slice A193_7 ((rd_T63 ((rd_T50 l0 x16_1).f4) x92_3).f4.f3).length c193_7)]; simp only [List.foldl] at hF_; replace hx195_0 := hF_ _ _ (an hn195_0) hx195_0; replace hx195_1 := hF_ _ _ (an hn195_0) hx195_1; replace hx195_2 := hF_ _ _ (an hn195_0) hx195_2; replace hx195_3 := hF_ _ _ (an hn195_0) hx195_3; replace hx195_4 := hF_ _ _ (an hn195_0) hx195_4; clear hF_; clear hn195_0; clear hn195_1; clear hn195_2; clear hn195_3; clear hn195_4; clear hn195_5; clear hn195_6; clear hn195_7; replace p195 := eq_true p195; replace q195 := eq_true q195; have p196 : 0 ≤ (x92_3 : Int) := oa; have q196 : x92_3 < (((rd_T50 l1 x16_1).f4).length : Int) := oa; obtain ⟨ad196, A196_6, c196_6, A196_7, c196_7, e196, hx196_0, hx196_1, hx196_2, hx196_3, hx196_4, hx196_5, hx196_6, hx196_7, hl196_6, hi196_6, hl196_7, hi196_7⟩ := at_T63 HR195_4.out x92_3 p196 q196; cases e196; have hn196_0 : ad196.block ≠ gb194 := hne hx196_0 GW194; have hn196_1 : ad196.block ≠ gb194 := hne hx196_0 GW194; have hn196_2 : ad196.block ≠ gb194 := hne hx196_0 GW194; have hn196_3 : ad196.block ≠ gb194 := hne hx196_0 GW194; have hn196_4 : ad196.block ≠ gb194 := hne hx196_0 GW194; have hn196_5 : ad196.block ≠ gb194 := hne hx196_0 GW194; have hn196_6 : ad196.block ≠ gb194 := hne hx196_0 GW194; have hn196_7 : ad196.block ≠ gb194 := hne hx196_0 GW194; replace hx196_0 := xb HB hx196_0; replace hx196_1 := xb HB hx196_1; replace hx196_2 := xb HB hx196_2; replace hx196_3 := xb HB hx196_3; replace hx196_4 := xb HB hx196_4; replace hx196_5 := xb HB hx196_5; replace hx196_6 := xb HB hx196_6; replace hx196_7 := xb HB hx196_7; have HR196_6 := Aside0.mk hi196_6; have HC196_6 := Aside0.mk hl196_6; clear hi196_6 hl196_6; have HR196_7 := Aside0.mk hi196_7; have HC196_7 := Aside0.mk hl196_7; clear hi196_7 hl196_7; have hF_ := fA hx196_0 gb194 [(0, .int .i64 ((rd_T63 ((rd_T50 l0 x16_1).f4) x92_3).f0)), (1, .int .i64 ((rd_T63 ((rd_T50 l0 x16_1).f4) x92_3).f1)), (2, .int .i64 ((rd_T63 ((rd_T50 l0 x16_1).f4) x92_3).f2)), (3, .int .i64 ((rd_T63 ((rd_T50 l0 x16_1).f4) x92_3).f3)), (4, .int .i64 ((rd_T63 ((rd_T50 l0 x16_1).f4) x92_3).f4.f0)), (5, .bool ((rd_T63 ((rd_T50 l0 x16_1).f4) x92_3).f4.f1)), (6, .slice A193_6 ((rd_T63 ((rd_T50 l0 x16_1).f4) x92_3).f4.f2).length c193_6), (7, .slice A193_7 ((rd_T63 ((rd_T50 l0 x16_1).f4) x92_3).f4.f3).length c193_7)]; simp only [List.foldl] at hF_; replace hx196_0 := hF_ _ _ (an hn196_0) hx196_0; replace hx196_1 := hF_ _ _ (an hn196_0) hx196_1; replace hx196_2 := hF_ _ _ (an hn196_0) hx196_2; replace hx196_3 := hF_ _ _ (an hn196_0) hx196_3; replace hx196_4 := hF_ _ _ (an hn196_0) hx196_4; replace hx196_5 := hF_ _ _ (an hn196_0) hx196_5; replace hx196_6 := hF_ _ _ (an hn196_0) hx196_6; replace hx196_7 := hF_ _ _ (an hn196_0) hx196_7; clear hF_; clear hn196_0; clear hn196_1; clear hn196_2; clear hn196_3; clear hn196_4; clear hn196_5; clear hn196_6; clear hn196_7; replace p196 := eq_true p196; replace q196 := eq_true q196) | ((with_reducible refine gate_dst (N := 8) rfl ?_); (try (refine gate_guard (by rfl) ?_; dsimp only)); refine bx (N := 8) (cs := #[.int .i64 0, .int .i64 0, .int .i64 0, .int .i64 0, .int .i64 0, .bool false, .slice none 0 0, .slice none 0 0]) (t := 63) ?_; intro gb197 hg wq2 hbox hb; have n0_ := Aside0.mk (blk_below (g := gb194) (o := .cells #[.int .i64 ((rd_T63 ((rd_T50 l0 x16_1).f4) x92_3).f0), .int .i64 ((rd_T63 ((rd_T50 l0 x16_1).f4) x92_3).f1), .int .i64 ((rd_T63 ((rd_T50 l0 x16_1).f4) x92_3).f2), .int .i64 ((rd_T63 ((rd_T50 l0 x16_1).f4) x92_3).f3), .int .i64 ((rd_T63 ((rd_T50 l0 x16_1).f4) x92_3).f4.f0), .bool ((rd_T63 ((rd_T50 l0 x16_1).f4) x92_3).f4.f1), .slice A193_6 ((rd_T63 ((rd_T50 l0 x16_1).f4) x92_3).f4.f2).length c193_6, .slice A193_7 ((rd_T63 ((rd_T50 l0 x16_1).f4) x92_3).f4.f3).length c193_7] 63 (0, 0)) (by (with_reducible repeat (first | refine blk_drewN ?_ _ | refine blk_drew ?_ | refine blk_alloc ?_ _)); refine blk_put (cs := #[.int .i64 ((rd_T63 ((rd_T50 l0 x16_1).f4) x92_3).f0), .int .i64 ((rd_T63 ((rd_T50 l0 x16_1).f4) x92_3).f1), .int .i64 ((rd_T63 ((rd_T50 l0 x16_1).f4) x92_3).f2), .int .i64 ((rd_T63 ((rd_T50 l0 x16_1).f4) x92_3).f3), .int .i64 ((rd_T63 ((rd_T50 l0 x16_1).f4) x92_3).f4.f0), .bool ((rd_T63 ((rd_T50 l0 x16_1).f4) x92_3).f4.f1), .slice A193_6 ((rd_T63 ((rd_T50 l0 x16_1).f4) x92_3).f4.f2).length c193_6, .slice none 0 0]) ?_ 7 _ rfl; (with_reducible repeat (first | refine blk_drewN ?_ _ | refine blk_drew ?_ | refine blk_alloc ?_ _)); refine blk_put (cs := #[.int .i64 ((rd_T63 ((rd_T50 l0 x16_1).f4) x92_3).f0), .int .i64 ((rd_T63 ((rd_T50 l0 x16_1).f4) x92_3).f1), .int .i64 ((rd_T63 ((rd_T50 l0 x16_1).f4) x92_3).f2), .int .i64 ((rd_T63 ((rd_T50 l0 x16_1).f4) x92_3).f3), .int .i64 ((rd_T63 ((rd_T50 l0 x16_1).f4) x92_3).f4.f0), .bool ((rd_T63 ((rd_T50 l0 x16_1).f4) x92_3).f4.f1), .slice none 0 0, .slice none 0 0]) ?_ 6 _ rfl; (with_reducible repeat (first | refine blk_drewN ?_ _ | refine blk_drew ?_ | refine blk_alloc ?_ _)); refine blk_put (cs := #[.int .i64 ((rd_T63 ((rd_T50 l0 x16_1).f4) x92_3).f0), .int .i64 ((rd_T63 ((rd_T50 l0 x16_1).f4) x92_3).f1), .int .i64 ((rd_T63 ((rd_T50 l0 x16_1).f4) x92_3).f2), .int .i64 ((rd_T63 ((rd_T50 l0 x16_1).f4) x92_3).f3), .int .i64 ((rd_T63 ((rd_T50 l0 x16_1).f4) x92_3).f4.f0), .bool false, .slice none 0 0, .slice none 0 0]) ?_ 5 _ rfl; (with_reducible repeat (first | refine blk_drewN ?_ _ | refine blk_drew ?_ | refine blk_alloc ?_ _)); refine blk_put (cs := #[.int .i64 ((rd_T63 ((rd_T50 l0 x16_1).f4) x92_3).f0), .int .i64 ((rd_T63 ((rd_T50 l0 x16_1).f4) x92_3).f1), .int .i64 ((rd_T63 ((rd_T50 l0 x16_1).f4) x92_3).f2), .int .i64 ((rd_T63 ((rd_T50 l0 x16_1).f4) x92_3).f3), .int .i64 0, .bool false, .slice none 0 0, .slice none 0 0]) ?_ 4 _ rfl; (with_reducible repeat (first | refine blk_drewN ?_ _ | refine blk_drew ?_ | refine blk_alloc ?_ _)); refine blk_put (cs := #[.int .i64 ((rd_T63 ((rd_T50 l0 x16_1).f4) x92_3).f0), .int .i64 ((rd_T63 ((rd_T50 l0 x16_1).f4) x92_3).f1), .int .i64 ((rd_T63 ((rd_T50 l0 x16_1).f4) x92_3).f2), .int .i64 0, .int .i64 0, .bool false, .slice none 0 0, .slice none 0 0]) ?_ 3 _ rfl; (with_reducible repeat (first | refine blk_drewN ?_ _ | refine blk_drew ?_ | refine blk_alloc ?_ _)); refine blk_put (cs := #[.int .i64 ((rd_T63 ((rd_T50 l0 x16_1).f4) x92_3).f0), .int .i64 ((rd_T63 ((rd_T50 l0 x16_1).f4) x92_3).f1), .int .i64 0, .int .i64 0, .int .i64 0, .bool false, .slice none 0 0, .slice none 0 0]) ?_ 2 _ rfl; (with_reducible repeat (first | refine blk_drewN ?_ _ | refine blk_drew ?_ | refine blk_alloc ?_ _)); refine blk_put (cs := #[.int .i64 ((rd_T63 ((rd_T50 l0 x16_1).f4) x92_3).f0), .int .i64 0, .int .i64 0, .int .i64 0, .int .i64 0, .bool false, .slice none 0 0, .slice none 0 0]) ?_ 1 _ rfl; (with_reducible repeat (first | refine blk_drewN ?_ _ | refine blk_drew ?_ | refine blk_alloc ?_ _)); refine blk_put (cs := #[.int .i64 0, .int .i64 0, .int .i64 0, .int .i64 0, .int .i64 0, .bool false, .slice none 0 0, .slice none 0 0]) ?_ 0 _ rfl; (with_reducible repeat (first | refine blk_drewN ?_ _ | refine blk_drew ?_ | refine blk_alloc ?_ _)); exact BK194.out) hb); have n1_ := Aside0.mk (below_step (bl HB) hb); have n2_ := Aside0.mk (hbox); have n3_ := (gz hg HB : Aside0 (w.heap.size ≤ gb197)); have n4_ := (gz hg HB : Aside0 (w.heap.size ≤ gb197)); have n5_ := Aside0.mk ((by rw [hg]; exact Nat.ne_of_lt (blk_lt (g := gb194) (o := .cells #[.int .i64 ((rd_T63 ((rd_T50 l0 x16_1).f4) x92_3).f0), .int .i64 ((rd_T63 ((rd_T50 l0 x16_1).f4) x92_3).f1), .int .i64 ((rd_T63 ((rd_T50 l0 x16_1).f4) x92_3).f2), .int .i64 ((rd_T63 ((rd_T50 l0 x16_1).f4) x92_3).f3), .int .i64 ((rd_T63 ((rd_T50 l0 x16_1).f4) x92_3).f4.f0), .bool ((rd_T63 ((rd_T50 l0 x16_1).f4) x92_3).f4.f1), .slice A193_6 ((rd_T63 ((rd_T50 l0 x16_1).f4) x92_3).f4.f2).length c193_6, .slice A193_7 ((rd_T63 ((rd_T50 l0 x16_1).f4) x92_3).f4.f3).length c193_7] 63 (0, 0)) (by (with_reducible repeat (first | refine blk_drewN ?_ _ | refine blk_drew ?_ | refine blk_alloc ?_ _)); refine blk_put (cs := #[.int .i64 ((rd_T63 ((rd_T50 l0 x16_1).f4) x92_3).f0), .int .i64 ((rd_T63 ((rd_T50 l0 x16_1).f4) x92_3).f1), .int .i64 ((rd_T63 ((rd_T50 l0 x16_1).f4) x92_3).f2), .int .i64 ((rd_T63 ((rd_T50 l0 x16_1).f4) x92_3).f3), .int .i64 ((rd_T63 ((rd_T50 l0 x16_1).f4) x92_3).f4.f0), .bool ((rd_T63 ((rd_T50 l0 x16_1).f4) x92_3).f4.f1), .slice A193_6 ((rd_T63 ((rd_T50 l0 x16_1).f4) x92_3).f4.f2).length c193_6, .slice none 0 0]) ?_ 7 _ rfl; (with_reducible repeat (first | refine blk_drewN ?_ _ | refine blk_drew ?_ | refine blk_alloc ?_ _)); refine blk_put (cs := #[.int .i64 ((rd_T63 ((rd_T50 l0 x16_1).f4) x92_3).f0), .int .i64 ((rd_T63 ((rd_T50 l0 x16_1).f4) x92_3).f1), .int .i64 ((rd_T63 ((rd_T50 l0 x16_1).f4) x92_3).f2), .int .i64 ((rd_T63 ((rd_T50 l0 x16_1).f4) x92_3).f3), .int .i64 ((rd_T63 ((rd_T50 l0 x16_1).f4) x92_3).f4.f0), .bool ((rd_T63 ((rd_T50 l0 x16_1).f4) x92_3).f4.f1), .slice none 0 0, .slice none 0 0]) ?_ 6 _ rfl; (with_reducible repeat (first | refine blk_drewN ?_ _ | refine blk_drew ?_ | refine blk_alloc ?_ _)); refine blk_put (cs := #[.int .i64 ((rd_T63 ((rd_T50 l0 x16_1).f4) x92_3).f0), .int .i64 ((rd_T63 ((rd_T50 l0 x16_1).f4) x92_3).f1), .int .i64 ((rd_T63 ((rd_T50 l0 x16_1).f4) x92_3).f2), .int .i64 ((rd_T63 ((rd_T50 l0 x16_1).f4) x92_3).f3), .int .i64 ((rd_T63 ((rd_T50 l0 x16_1).f4) x92_3).f4.f0), .bool false, .slice none 0 0, .slice none 0 0]) ?_ 5 _ rfl; (with_reducible repeat (first | refine blk_drewN ?_ _ | refine blk_drew ?_ | refine blk_alloc ?_ _)); refine blk_put (cs := #[.int .i64 ((rd_T63 ((rd_T50 l0 x16_1).f4) x92_3).f0), .int .i64 ((rd_T63 ((rd_T50 l0 x16_1).f4) x92_3).f1), .int .i64 ((rd_T63 ((rd_T50 l0 x16_1).f4) x92_3).f2), .int .i64 ((rd_T63 ((rd_T50 l0 x16_1).f4) x92_3).f3), .int .i64 0, .bool false, .slice none 0 0, .slice none 0 0]) ?_ 4 _ rfl; (with_reducible repeat (first | refine blk_drewN ?_ _ | refine blk_drew ?_ | refine blk_alloc ?_ _)); refine blk_put (cs := #[.int .i64 ((rd_T63 ((rd_T50 l0 x16_1).f4) x92_3).f0), .int .i64 ((rd_T63 ((rd_T50 l0 x16_1).f4) x92_3).f1), .int .i64 ((rd_T63 ((rd_T50 l0 x16_1).f4) x92_3).f2), .int .i64 0, .int .i64 0, .bool false, .slice none 0 0, .slice none 0 0]) ?_ 3 _ rfl; (with_reducible repeat (first | refine blk_drewN ?_ _ | refine blk_drew ?_ | refine blk_alloc ?_ _)); refine blk_put (cs := #[.int .i64 ((rd_T63 ((rd_T50 l0 x16_1).f4) x92_3).f0), .int .i64 ((rd_T63 ((rd_T50 l0 x16_1).f4) x92_3).f1), .int .i64 0, .int .i64 0, .int .i64 0, .bool false, .slice none 0 0, .slice none 0 0]) ?_ 2 _ rfl; (with_reducible repeat (first | refine blk_drewN ?_ _ | refine blk_drew ?_ | refine blk_alloc ?_ _)); refine blk_put (cs := #[.int .i64 ((rd_T63 ((rd_T50 l0 x16_1).f4) x92_3).f0), .int .i64 0, .int .i64 0, .int .i64 0, .int .i64 0, .bool false, .slice none 0 0, .slice none 0 0]) ?_ 1 _ rfl; (with_reducible repeat (first | refine blk_drewN ?_ _ | refine blk_drew ?_ | refine blk_alloc ?_ _)); refine blk_put (cs := #[.int .i64 0, .int .i64 0, .int .i64 0, .int .i64 0, .int .i64 0, .bool false, .slice none 0 0, .slice none 0 0]) ?_ 0 _ rfl; (with_reducible repeat (first | refine blk_drewN ?_ _ | refine blk_drew ?_ | refine blk_alloc ?_ _)); exact BK194.out)) : gb194 ≠ gb197)); have n6_ := Aside0.mk ((by rw [hg]; exact Nat.ne_of_gt (blk_lt (g := gb194) (o := .cells #[.int .i64 ((rd_T63 ((rd_T50 l0 x16_1).f4) x92_3).f0), .int .i64 ((rd_T63 ((rd_T50 l0 x16_1).f4) x92_3).f1), .int .i64 ((rd_T63 ((rd_T50 l0 x16_1).f4) x92_3).f2), .int .i64 ((rd_T63 ((rd_T50 l0 x16_1).f4) x92_3).f3), .int .i64 ((rd_T63 ((rd_T50 l0 x16_1).f4) x92_3).f4.f0), .bool ((rd_T63 ((rd_T50 l0 x16_1).f4) x92_3).f4.f1), .slice A193_6 ((rd_T63 ((rd_T50 l0 x16_1).f4) x92_3).f4.f2).length c193_6, .slice A193_7 ((rd_T63 ((rd_T50 l0 x16_1).f4) x92_3).f4.f3).length c193_7] 63 (0, 0)) (by (with_reducible repeat (first | refine blk_drewN ?_ _ | refine blk_drew ?_ | refine blk_alloc ?_ _)); refine blk_put (cs := #[.int .i64 ((rd_T63 ((rd_T50 l0 x16_1).f4) x92_3).f0), .int .i64 ((rd_T63 ((rd_T50 l0 x16_1).f4) x92_3).f1), .int .i64 ((rd_T63 ((rd_T50 l0 x16_1).f4) x92_3).f2), .int .i64 ((rd_T63 ((rd_T50 l0 x16_1).f4) x92_3).f3), .int .i64 ((rd_T63 ((rd_T50 l0 x16_1).f4) x92_3).f4.f0), .bool ((rd_T63 ((rd_T50 l0 x16_1).f4) x92_3).f4.f1), .slice A193_6 ((rd_T63 ((rd_T50 l0 x16_1).f4) x92_3).f4.f2).length c193_6, .slice none 0 0]) ?_ 7 _ rfl; (with_reducible repeat (first | refine blk_drewN ?_ _ | refine blk_drew ?_ | refine blk_alloc ?_ _)); refine blk_put (cs := #[.int .i64 ((rd_T63 ((rd_T50 l0 x16_1).f4) x92_3).f0), .int .i64 ((rd_T63 ((rd_T50 l0 x16_1).f4) x92_3).f1), .int .i64 ((rd_T63 ((rd_T50 l0 x16_1).f4) x92_3).f2), .int .i64 ((rd_T63 ((rd_T50 l0 x16_1).f4) x92_3).f3), .int .i64 ((rd_T63 ((rd_T50 l0 x16_1).f4) x92_3).f4.f0), .bool ((rd_T63 ((rd_T50 l0 x16_1).f4) x92_3).f4.f1), .slice none 0 0, .slice none 0 0]) ?_ 6 _ rfl; (with_reducible repeat (first | refine blk_drewN ?_ _ | refine blk_drew ?_ | refine blk_alloc ?_ _)); refine blk_put (cs := #[.int .i64 ((rd_T63 ((rd_T50 l0 x16_1).f4) x92_3).f0), .int .i64 ((rd_T63 ((rd_T50 l0 x16_1).f4) x92_3).f1), .int .i64 ((rd_T63 ((rd_T50 l0 x16_1).f4) x92_3).f2), .int .i64 ((rd_T63 ((rd_T50 l0 x16_1).f4) x92_3).f3), .int .i64 ((rd_T63 ((rd_T50 l0 x16_1).f4) x92_3).f4.f0), .bool false, .slice none 0 0, .slice none 0 0]) ?_ 5 _ rfl; (with_reducible repeat (first | refine blk_drewN ?_ _ | refine blk_drew ?_ | refine blk_alloc ?_ _)); refine blk_put (cs := #[.int .i64 ((rd_T63 ((rd_T50 l0 x16_1).f4) x92_3).f0), .int .i64 ((rd_T63 ((rd_T50 l0 x16_1).f4) x92_3).f1), .int .i64 ((rd_T63 ((rd_T50 l0 x16_1).f4) x92_3).f2), .int .i64 ((rd_T63 ((rd_T50 l0 x16_1).f4) x92_3).f3), .int .i64 0, .bool false, .slice none 0 0, .slice none 0 0]) ?_ 4 _ rfl; (with_reducible repeat (first | refine blk_drewN ?_ _ | refine blk_drew ?_ | refine blk_alloc ?_ _)); refine blk_put (cs := #[.int .i64 ((rd_T63 ((rd_T50 l0 x16_1).f4) x92_3).f0), .int .i64 ((rd_T63 ((rd_T50 l0 x16_1).f4) x92_3).f1), .int .i64 ((rd_T63 ((rd_T50 l0 x16_1).f4) x92_3).f2), .int .i64 0, .int .i64 0, .bool false, .slice none 0 0, .slice none 0 0]) ?_ 3 _ rfl; (with_reducible repeat (first | refine blk_drewN ?_ _ | refine blk_drew ?_ | refine blk_alloc ?_ _)); refine blk_put (cs := #[.int .i64 ((rd_T63 ((rd_T50 l0 x16_1).f4) x92_3).f0), .int .i64 ((rd_T63 ((rd_T50 l0 x16_1).f4) x92_3).f1), .int .i64 0, .int .i64 0, .int .i64 0, .bool false, .slice none 0 0, .slice none 0 0]) ?_ 2 _ rfl; (with_reducible repeat (first | refine blk_drewN ?_ _ | refine blk_drew ?_ | refine blk_alloc ?_ _)); refine blk_put (cs := #[.int .i64 ((rd_T63 ((rd_T50 l0 x16_1).f4) x92_3).f0), .int .i64 0, .int .i64 0, .int .i64 0, .int .i64 0, .bool false, .slice none 0 0, .slice none 0 0]) ?_ 1 _ rfl; (with_reducible repeat (first | refine blk_drewN ?_ _ | refine blk_drew ?_ | refine blk_alloc ?_ _)); refine blk_put (cs := #[.int .i64 0, .int .i64 0, .int .i64 0, .int .i64 0, .int .i64 0, .bool false, .slice none 0 0, .slice none 0 0]) ?_ 0 _ rfl; (with_reducible repeat (first | refine blk_drewN ?_ _ | refine blk_drew ?_ | refine blk_alloc ?_ _)); exact BK194.out)) : gb197 ≠ gb194)); clear BK194; clear HB; have BK194 := n0_; have HB := n1_; have BK197 := n2_; have GW197 := n3_; have GE197 := n4_; have NB194_197 := n5_; have NB197_194 := n6_; clear n0_ n1_ n2_ n3_ n4_ n5_ n6_; clear hb hbox hg; have hnb43 := NB197_194.out; have hnc43 := NB194_197.out; have hczq2_0 := blk_cell BK197.out 0; have hczq2_1 := blk_cell BK197.out 1; have hczq2_2 := blk_cell BK197.out 2; have hczq2_3 := blk_cell BK197.out 3; have hczq2_4 := blk_cell BK197.out 4; have hczq2_5 := blk_cell BK197.out 5; have hczq2_6 := blk_cell BK197.out 6; have hczq2_7 := blk_cell BK197.out 7; have hfzq2_0 := blk_frozen BK197.out 0; have hfzq2_1 := blk_frozen BK197.out 1; have hfzq2_2 := blk_frozen BK197.out 2; have hfzq2_3 := blk_frozen BK197.out 3; have hfzq2_4 := blk_frozen BK197.out 4; have hfzq2_5 := blk_frozen BK197.out 5; have hfzq2_6 := blk_frozen BK197.out 6; have hfzq2_7 := blk_frozen BK197.out 7; have hczq3_0 := blk_cell BK194.out 0; have hczq3_1 := blk_cell BK194.out 1; have hczq3_2 := blk_cell BK194.out 2; have hczq3_3 := blk_cell BK194.out 3; have hczq3_4 := blk_cell BK194.out 4; have hczq3_5 := blk_cell BK194.out 5; have hczq3_6 := blk_cell BK194.out 6; have hczq3_7 := blk_cell BK194.out 7; have hfzq3_0 := blk_frozen BK194.out 0; have hfzq3_1 := blk_frozen BK194.out 1; have hfzq3_2 := blk_frozen BK194.out 2; have hfzq3_3 := blk_frozen BK194.out 3; have hfzq3_4 := blk_frozen BK194.out 4; have hfzq3_5 := blk_frozen BK194.out 5; have hfzq3_6 := blk_frozen BK194.out 6; have hfzq3_7 := blk_frozen BK194.out 7) | (go_at_call 37; (with_reducible refine (fluxionref29_Equal.calls k3 ((rd_T63 ((rd_T50 l0 x16_1).f4) x92_3).f4.f0) ((rd_T63 ((rd_T50 l0 x16_1).f4) x92_3).f4.f1) _ _ ((rd_T63 ((rd_T50 l0 x16_1).f4) x92_3).f4.f2) _ _ ((rd_T63 ((rd_T50 l0 x16_1).f4) x92_3).f4.f3) ((rd_T63 ((rd_T50 l1 x16_1).f4) x92_3).f4.f0) ((rd_T63 ((rd_T50 l1 x16_1).f4) x92_3).f4.f1) _ _ ((rd_T63 ((rd_T50 l1 x16_1).f4) x92_3).f4.f2) _ _ ((rd_T63 ((rd_T50 l1 x16_1).f4) x92_3).f4.f3) true _ ?side1 ?side2 ?side3 ?side4 ?side5 ?side6 ?side7 ?side8 A38.out).mono ?_); (case side1 => exact Kd.C_below HR193_6.out (bl HB)); (case side2 => exact HC193_6.out); (case side3 => exact Kd.C_below HR193_7.out (bl HB)); (case side4 => exact HC193_7.out); (case side5 => exact Kd.C_below HR196_6.out (bl HB)); (case side6 => exact HC196_6.out); (case side7 => exact Kd.C_below HR196_7.out (bl HB)); (case side8 => exact HC196_7.out); rintro e wq3 ⟨rfl, hb⟩; replace BK194 := Aside0.mk (blk_below (g := gb194) (o := .cells #[.int .i64 ((rd_T63 ((rd_T50 l0 x16_1).f4) x92_3).f0), .int .i64 ((rd_T63 ((rd_T50 l0 x16_1).f4) x92_3).f1), .int .i64 ((rd_T63 ((rd_T50 l0 x16_1).f4) x92_3).f2), .int .i64 ((rd_T63 ((rd_T50 l0 x16_1).f4) x92_3).f3), .int .i64 ((rd_T63 ((rd_T50 l0 x16_1).f4) x92_3).f4.f0), .bool ((rd_T63 ((rd_T50 l0 x16_1).f4) x92_3).f4.f1), .slice A193_6 ((rd_T63 ((rd_T50 l0 x16_1).f4) x92_3).f4.f2).length c193_6, .slice A193_7 ((rd_T63 ((rd_T50 l0 x16_1).f4) x92_3).f4.f3).length c193_7] 63 (0, 0)) (by (with_reducible repeat (first | refine blk_drewN ?_ _ | refine blk_drew ?_ | refine blk_alloc ?_ _)); refine blk_far ?_ NB194_197.out _; (with_reducible repeat (first | refine blk_drewN ?_ _ | refine blk_drew ?_ | refine blk_alloc ?_ _)); refine blk_far ?_ NB194_197.out _; (with_reducible repeat (first | refine blk_drewN ?_ _ | refine blk_drew ?_ | refine blk_alloc ?_ _)); refine blk_far ?_ NB194_197.out _; (with_reducible repeat (first | refine blk_drewN ?_ _ | refine blk_drew ?_ | refine blk_alloc ?_ _)); refine blk_far ?_ NB194_197.out _; (with_reducible repeat (first | refine blk_drewN ?_ _ | refine blk_drew ?_ | refine blk_alloc ?_ _)); refine blk_far ?_ NB194_197.out _; (with_reducible repeat (first | refine blk_drewN ?_ _ | refine blk_drew ?_ | refine blk_alloc ?_ _)); refine blk_far ?_ NB194_197.out _; (with_reducible repeat (first | refine blk_drewN ?_ _ | refine blk_drew ?_ | refine blk_alloc ?_ _)); refine blk_far ?_ NB194_197.out _; (with_reducible repeat (first | refine blk_drewN ?_ _ | refine blk_drew ?_ | refine blk_alloc ?_ _)); refine blk_far ?_ NB194_197.out _; (with_reducible repeat (first | refine blk_drewN ?_ _ | refine blk_drew ?_ | refine blk_alloc ?_ _)); exact BK194.out) hb); replace BK197 := Aside0.mk (blk_below (g := gb197) (o := .cells #[.int .i64 ((rd_T63 ((rd_T50 l1 x16_1).f4) x92_3).f0), .int .i64 ((rd_T63 ((rd_T50 l1 x16_1).f4) x92_3).f1), .int .i64 ((rd_T63 ((rd_T50 l1 x16_1).f4) x92_3).f2), .int .i64 ((rd_T63 ((rd_T50 l1 x16_1).f4) x92_3).f3), .int .i64 ((rd_T63 ((rd_T50 l1 x16_1).f4) x92_3).f4.f0), .bool ((rd_T63 ((rd_T50 l1 x16_1).f4) x92_3).f4.f1), .slice A196_6 ((rd_T63 ((rd_T50 l1 x16_1).f4) x92_3).f4.f2).length c196_6, .slice A196_7 ((rd_T63 ((rd_T50 l1 x16_1).f4) x92_3).f4.f3).length c196_7] 63 (0, 0)) (by (with_reducible repeat (first | refine blk_drewN ?_ _ | refine blk_drew ?_ | refine blk_alloc ?_ _)); refine blk_put (cs := #[.int .i64 ((rd_T63 ((rd_T50 l1 x16_1).f4) x92_3).f0), .int .i64 ((rd_T63 ((rd_T50 l1 x16_1).f4) x92_3).f1), .int .i64 ((rd_T63 ((rd_T50 l1 x16_1).f4) x92_3).f2), .int .i64 ((rd_T63 ((rd_T50 l1 x16_1).f4) x92_3).f3), .int .i64 ((rd_T63 ((rd_T50 l1 x16_1).f4) x92_3).f4.f0), .bool ((rd_T63 ((rd_T50 l1 x16_1).f4) x92_3).f4.f1), .slice A196_6 ((rd_T63 ((rd_T50 l1 x16_1).f4) x92_3).f4.f2).length c196_6, .slice none 0 0]) ?_ 7 _ rfl; (with_reducible repeat (first | refine blk_drewN ?_ _ | refine blk_drew ?_ | refine blk_alloc ?_ _)); refine blk_put (cs := #[.int .i64 ((rd_T63 ((rd_T50 l1 x16_1).f4) x92_3).f0), .int .i64 ((rd_T63 ((rd_T50 l1 x16_1).f4) x92_3).f1), .int .i64 ((rd_T63 ((rd_T50 l1 x16_1).f4) x92_3).f2), .int .i64 ((rd_T63 ((rd_T50 l1 x16_1).f4) x92_3).f3), .int .i64 ((rd_T63 ((rd_T50 l1 x16_1).f4) x92_3).f4.f0), .bool ((rd_T63 ((rd_T50 l1 x16_1).f4) x92_3).f4.f1), .slice none 0 0, .slice none 0 0]) ?_ 6 _ rfl; (with_reducible repeat (first | refine blk_drewN ?_ _ | refine blk_drew ?_ | refine blk_alloc ?_ _)); refine blk_put (cs := #[.int .i64 ((rd_T63 ((rd_T50 l1 x16_1).f4) x92_3).f0), .int .i64 ((rd_T63 ((rd_T50 l1 x16_1).f4) x92_3).f1), .int .i64 ((rd_T63 ((rd_T50 l1 x16_1).f4) x92_3).f2), .int .i64 ((rd_T63 ((rd_T50 l1 x16_1).f4) x92_3).f3), .int .i64 ((rd_T63 ((rd_T50 l1 x16_1).f4) x92_3).f4.f0), .bool false, .slice none 0 0, .slice none 0 0]) ?_ 5 _ rfl; (with_reducible repeat (first | refine blk_drewN ?_ _ | refine blk_drew ?_ | refine blk_alloc ?_ _)); refine blk_put (cs := #[.int .i64 ((rd_T63 ((rd_T50 l1 x16_1).f4) x92_3).f0), .int .i64 ((rd_T63 ((rd_T50 l1 x16_1).f4) x92_3).f1), .int .i64 ((rd_T63 ((rd_T50 l1 x16_1).f4) x92_3).f2), .int .i64 ((rd_T63 ((rd_T50 l1 x16_1).f4) x92_3).f3), .int .i64 0, .bool false, .slice none 0 0, .slice none 0 0]) ?_ 4 _ rfl; (with_reducible repeat (first | refine blk_drewN ?_ _ | refine blk_drew ?_ | refine blk_alloc ?_ _)); refine blk_put (cs := #[.int .i64 ((rd_T63 ((rd_T50 l1 x16_1).f4) x92_3).f0), .int .i64 ((rd_T63 ((rd_T50 l1 x16_1).f4) x92_3).f1), .int .i64 ((rd_T63 ((rd_T50 l1 x16_1).f4) x92_3).f2), .int .i64 0, .int .i64 0, .bool false, .slice none 0 0, .slice none 0 0]) ?_ 3 _ rfl; (with_reducible repeat (first | refine blk_drewN ?_ _ | refine blk_drew ?_ | refine blk_alloc ?_ _)); refine blk_put (cs := #[.int .i64 ((rd_T63 ((rd_T50 l1 x16_1).f4) x92_3).f0), .int .i64 ((rd_T63 ((rd_T50 l1 x16_1).f4) x92_3).f1), .int .i64 0, .int .i64 0, .int .i64 0, .bool false, .slice none 0 0, .slice none 0 0]) ?_ 2 _ rfl; (with_reducible repeat (first | refine blk_drewN ?_ _ | refine blk_drew ?_ | refine blk_alloc ?_ _)); refine blk_put (cs := #[.int .i64 ((rd_T63 ((rd_T50 l1 x16_1).f4) x92_3).f0), .int .i64 0, .int .i64 0, .int .i64 0, .int .i64 0, .bool false, .slice none 0 0, .slice none 0 0]) ?_ 1 _ rfl; (with_reducible repeat (first | refine blk_drewN ?_ _ | refine blk_drew ?_ | refine blk_alloc ?_ _)); refine blk_put (cs := #[.int .i64 0, .int .i64 0, .int .i64 0, .int .i64 0, .int .i64 0, .bool false, .slice none 0 0, .slice none 0 0]) ?_ 0 _ rfl; (with_reducible repeat (first | refine blk_drewN ?_ _ | refine blk_drew ?_ | refine blk_alloc ?_ _)); exact BK197.out) hb); replace HB := Aside0.mk (below_step (bl HB) hb); clear hb) | ((with_reducible refine gate_dst (N := 8) rfl ?_); (try (refine gate_guard (by rfl) ?_; dsimp only)); refine bx (N := 8) (cs := #[.int .i64 0, .int .i64 0, .int .i64 0, .int .i64 0, .int .i64 0, .bool false, .slice none 0 0, .slice none 0 0]) (t := 63) ?_; intro gb197 hg wq2 hbox hb; have n0_ := Aside0.mk (blk_below (g := gb194) (o := .cells #[.int .i64 ((rd_T63 ((rd_T50 l0 x16_1).f4) x92_3).f0), .int .i64 ((rd_T63 ((rd_T50 l0 x16_1).f4) x92_3).f1), .int .i64 ((rd_T63 ((rd_T50 l0 x16_1).f4) x92_3).f2), .int .i64 ((rd_T63 ((rd_T50 l0 x16_1).f4) x92_3).f3), .int .i64 ((rd_T63 ((rd_T50 l0 x16_1).f4) x92_3).f4.f0), .bool ((rd_T63 ((rd_T50 l0 x16_1).f4) x92_3).f4.f1), .slice A193_6 ((rd_T63 ((rd_T50 l0 x16_1).f4) x92_3).f4.f2).length c193_6, .slice A193_7 ((rd_T63 ((rd_T50 l0 x16_1).f4) x92_3).f4.f3).length c193_7] 63 (0, 0)) (by (with_reducible repeat (first | refine blk_drewN ?_ _ | refine blk_drew ?_ | refine blk_alloc ?_ _)); refine blk_put (cs := #[.int .i64 ((rd_T63 ((rd_T50 l0 x16_1).f4) x92_3).f0), .int .i64 ((rd_T63 ((rd_T50 l0 x16_1).f4) x92_3).f1), .int .i64 ((rd_T63 ((rd_T50 l0 x16_1).f4) x92_3).f2), .int .i64 ((rd_T63 ((rd_T50 l0 x16_1).f4) x92_3).f3), .int .i64 ((rd_T63 ((rd_T50 l0 x16_1).f4) x92_3).f4.f0), .bool ((rd_T63 ((rd_T50 l0 x16_1).f4) x92_3).f4.f1), .slice A193_6 ((rd_T63 ((rd_T50 l0 x16_1).f4) x92_3).f4.f2).length c193_6, .slice none 0 0]) ?_ 7 _ rfl; (with_reducible repeat (first | refine blk_drewN ?_ _ | refine blk_drew ?_ | refine blk_alloc ?_ _)); refine blk_put (cs := #[.int .i64 ((rd_T63 ((rd_T50 l0 x16_1).f4) x92_3).f0), .int .i64 ((rd_T63 ((rd_T50 l0 x16_1).f4) x92_3).f1), .int .i64 ((rd_T63 ((rd_T50 l0 x16_1).f4) x92_3).f2), .int .i64 ((rd_T63 ((rd_T50 l0 x16_1).f4) x92_3).f3), .int .i64 ((rd_T63 ((rd_T50 l0 x16_1).f4) x92_3).f4.f0), .bool ((rd_T63 ((rd_T50 l0 x16_1).f4) x92_3).f4.f1), .slice none 0 0, .slice none 0 0]) ?_ 6 _ rfl; (with_reducible repeat (first | refine blk_drewN ?_ _ | refine blk_drew ?_ | refine blk_alloc ?_ _)); refine blk_put (cs := #[.int .i64 ((rd_T63 ((rd_T50 l0 x16_1).f4) x92_3).f0), .int .i64 ((rd_T63 ((rd_T50 l0 x16_1).f4) x92_3).f1), .int .i64 ((rd_T63 ((rd_T50 l0 x16_1).f4) x92_3).f2), .int .i64 ((rd_T63 ((rd_T50 l0 x16_1).f4) x92_3).f3), .int .i64 ((rd_T63 ((rd_T50 l0 x16_1).f4) x92_3).f4.f0), .bool false, .slice none 0 0, .slice none 0 0]) ?_ 5 _ rfl; (with_reducible repeat (first | refine blk_drewN ?_ _ | refine blk_drew ?_ | refine blk_alloc ?_ _)); refine blk_put (cs := #[.int .i64 ((rd_T63 ((rd_T50 l0 x16_1).f4) x92_3).f0), .int .i64 ((rd_T63 ((rd_T50 l0 x16_1).f4) x92_3).f1), .int .i64 ((rd_T63 ((rd_T50 l0 x16_1).f4) x92_3).f2), .int .i64 ((rd_T63 ((rd_T50 l0 x16_1).f4) x92_3).f3), .int .i64 0, .bool false, .slice none 0 0, .slice none 0 0]) ?_ 4 _ rfl; (with_reducible repeat (first | refine blk_drewN ?_ _ | refine blk_drew ?_ | refine blk_alloc ?_ _)); refine blk_put (cs := #[.int .i64 ((rd_T63 ((rd_T50 l0 x16_1).f4) x92_3).f0), .int .i64 ((rd_T63 ((rd_T50 l0 x16_1).f4) x92_3).f1), .int .i64 ((rd_T63 ((rd_T50 l0 x16_1).f4) x92_3).f2), .int .i64 0, .int .i64 0, .bool false, .slice none 0 0, .slice none 0 0]) ?_ 3 _ rfl; (with_reducible repeat (first | refine blk_drewN ?_ _ | refine blk_drew ?_ | refine blk_alloc ?_ _)); refine blk_put (cs := #[.int .i64 ((rd_T63 ((rd_T50 l0 x16_1).f4) x92_3).f0), .int .i64 ((rd_T63 ((rd_T50 l0 x16_1).f4) x92_3).f1), .int .i64 0, .int .i64 0, .int .i64 0, .bool false, .slice none 0 0, .slice none 0 0]) ?_ 2 _ rfl; (with_reducible repeat (first | refine blk_drewN ?_ _ | refine blk_drew ?_ | refine blk_alloc ?_ _)); refine blk_put (cs := #[.int .i64 ((rd_T63 ((rd_T50 l0 x16_1).f4) x92_3).f0), .int .i64 0, .int .i64 0, .int .i64 0, .int .i64 0, .bool false, .slice none 0 0, .slice none 0 0]) ?_ 1 _ rfl; (with_reducible repeat (first | refine blk_drewN ?_ _ | refine blk_drew ?_ | refine blk_alloc ?_ _)); refine blk_put (cs := #[.int .i64 0, .int .i64 0, .int .i64 0, .int .i64 0, .int .i64 0, .bool false, .slice none 0 0, .slice none 0 0]) ?_ 0 _ rfl; (with_reducible repeat (first | refine blk_drewN ?_ _ | refine blk_drew ?_ | refine blk_alloc ?_ _)); exact BK194.out) hb); have n1_ := Aside0.mk (below_step (bl HB) hb); have n2_ := Aside0.mk (hbox); have n3_ := (gz hg HB : Aside0 (w.heap.size ≤ gb197)); have n4_ := (gz hg HB : Aside0 (w.heap.size ≤ gb197)); have n5_ := Aside0.mk ((by rw [hg]; exact Nat.ne_of_lt (blk_lt (g := gb194) (o := .cells #[.int .i64 ((rd_T63 ((rd_T50 l0 x16_1).f4) x92_3).f0), .int .i64 ((rd_T63 ((rd_T50 l0 x16_1).f4) x92_3).f1), .int .i64 ((rd_T63 ((rd_T50 l0 x16_1).f4) x92_3).f2), .int .i64 ((rd_T63 ((rd_T50 l0 x16_1).f4) x92_3).f3), .int .i64 ((rd_T63 ((rd_T50 l0 x16_1).f4) x92_3).f4.f0), .bool ((rd_T63 ((rd_T50 l0 x16_1).f4) x92_3).f4.f1), .slice A193_6 ((rd_T63 ((rd_T50 l0 x16_1).f4) x92_3).f4.f2).length c193_6, .slice A193_7 ((rd_T63 ((rd_T50 l0 x16_1).f4) x92_3).f4.f3).length c193_7] 63 (0, 0)) (by (with_reducible repeat (first | refine blk_drewN ?_ _ | refine blk_drew ?_ | refine blk_alloc ?_ _)); refine blk_put (cs := #[.int .i64 ((rd_T63 ((rd_T50 l0 x16_1).f4) x92_3).f0), .int .i64 ((rd_T63 ((rd_T50 l0 x16_1).f4) x92_3).f1), .int .i64 ((rd_T63 ((rd_T50 l0 x16_1).f4) x92_3).f2), .int .i64 ((rd_T63 ((rd_T50 l0 x16_1).f4) x92_3).f3), .int .i64 ((rd_T63 ((rd_T50 l0 x16_1).f4) x92_3).f4.f0), .bool ((rd_T63 ((rd_T50 l0 x16_1).f4) x92_3).f4.f1), .slice A193_6 ((rd_T63 ((rd_T50 l0 x16_1).f4) x92_3).f4.f2).length c193_6, .slice none 0 0]) ?_ 7 _ rfl; (with_reducible repeat (first | refine blk_drewN ?_ _ | refine blk_drew ?_ | refine blk_alloc ?_ _)); refine blk_put (cs := #[.int .i64 ((rd_T63 ((rd_T50 l0 x16_1).f4) x92_3).f0), .int .i64 ((rd_T63 ((rd_T50 l0 x16_1).f4) x92_3).f1), .int .i64 ((rd_T63 ((rd_T50 l0 x16_1).f4) x92_3).f2), .int .i64 ((rd_T63 ((rd_T50 l0 x16_1).f4) x92_3).f3), .int .i64 ((rd_T63 ((rd_T50 l0 x16_1).f4) x92_3).f4.f0), .bool ((rd_T63 ((rd_T50 l0 x16_1).f4) x92_3).f4.f1), .slice none 0 0, .slice none 0 0]) ?_ 6 _ rfl; (with_reducible repeat (first | refine blk_drewN ?_ _ | refine blk_drew ?_ | refine blk_alloc ?_ _)); refine blk_put (cs := #[.int .i64 ((rd_T63 ((rd_T50 l0 x16_1).f4) x92_3).f0), .int .i64 ((rd_T63 ((rd_T50 l0 x16_1).f4) x92_3).f1), .int .i64 ((rd_T63 ((rd_T50 l0 x16_1).f4) x92_3).f2), .int .i64 ((rd_T63 ((rd_T50 l0 x16_1).f4) x92_3).f3), .int .i64 ((rd_T63 ((rd_T50 l0 x16_1).f4) x92_3).f4.f0), .bool false, .slice none 0 0, .slice none 0 0]) ?_ 5 _ rfl; (with_reducible repeat (first | refine blk_drewN ?_ _ | refine blk_drew ?_ | refine blk_alloc ?_ _)); refine blk_put (cs := #[.int .i64 ((rd_T63 ((rd_T50 l0 x16_1).f4) x92_3).f0), .int .i64 ((rd_T63 ((rd_T50 l0 x16_1).f4) x92_3).f1), .int .i64 ((rd_T63 ((rd_T50 l0 x16_1).f4) x92_3).f2), .int .i64 ((rd_T63 ((rd_T50 l0 x16_1).f4) x92_3).f3), .int .i64 0, .bool false, .slice none 0 0, .slice none 0 0]) ?_ 4 _ rfl; (with_reducible repeat (first | refine blk_drewN ?_ _ | refine blk_drew ?_ | refine blk_alloc ?_ _)); refine blk_put (cs := #[.int .i64 ((rd_T63 ((rd_T50 l0 x16_1).f4) x92_3).f0), .int .i64 ((rd_T63 ((rd_T50 l0 x16_1).f4) x92_3).f1), .int .i64 ((rd_T63 ((rd_T50 l0 x16_1).f4) x92_3).f2), .int .i64 0, .int .i64 0, .bool false, .slice none 0 0, .slice none 0 0]) ?_ 3 _ rfl; (with_reducible repeat (first | refine blk_drewN ?_ _ | refine blk_drew ?_ | refine blk_alloc ?_ _)); refine blk_put (cs := #[.int .i64 ((rd_T63 ((rd_T50 l0 x16_1).f4) x92_3).f0), .int .i64 ((rd_T63 ((rd_T50 l0 x16_1).f4) x92_3).f1), .int .i64 0, .int .i64 0, .int .i64 0, .bool false, .slice none 0 0, .slice none 0 0]) ?_ 2 _ rfl; (with_reducible repeat (first | refine blk_drewN ?_ _ | refine blk_drew ?_ | refine blk_alloc ?_ _)); refine blk_put (cs := #[.int .i64 ((rd_T63 ((rd_T50 l0 x16_1).f4) x92_3).f0), .int .i64 0, .int .i64 0, .int .i64 0, .int .i64 0, .bool false, .slice none 0 0, .slice none 0 0]) ?_ 1 _ rfl; (with_reducible repeat (first | refine blk_drewN ?_ _ | refine blk_drew ?_ | refine blk_alloc ?_ _)); refine blk_put (cs := #[.int .i64 0, .int .i64 0, .int .i64 0, .int .i64 0, .int .i64 0, .bool false, .slice none 0 0, .slice none 0 0]) ?_ 0 _ rfl; (with_reducible repeat (first | refine blk_drewN ?_ _ | refine blk_drew ?_ | refine blk_alloc ?_ _)); exact BK194.out)) : gb194 ≠ gb197)); have n6_ := Aside0.mk ((by rw [hg]; exact Nat.ne_of_gt (blk_lt (g := gb194) (o := .cells #[.int .i64 ((rd_T63 ((rd_T50 l0 x16_1).f4) x92_3).f0), .int .i64 ((rd_T63 ((rd_T50 l0 x16_1).f4) x92_3).f1), .int .i64 ((rd_T63 ((rd_T50 l0 x16_1).f4) x92_3).f2), .int .i64 ((rd_T63 ((rd_T50 l0 x16_1).f4) x92_3).f3), .int .i64 ((rd_T63 ((rd_T50 l0 x16_1).f4) x92_3).f4.f0), .bool ((rd_T63 ((rd_T50 l0 x16_1).f4) x92_3).f4.f1), .slice A193_6 ((rd_T63 ((rd_T50 l0 x16_1).f4) x92_3).f4.f2).length c193_6, .slice A193_7 ((rd_T63 ((rd_T50 l0 x16_1).f4) x92_3).f4.f3).length c193_7] 63 (0, 0)) (by (with_reducible repeat (first | refine blk_drewN ?_ _ | refine blk_drew ?_ | refine blk_alloc ?_ _)); refine blk_put (cs := #[.int .i64 ((rd_T63 ((rd_T50 l0 x16_1).f4) x92_3).f0), .int .i64 ((rd_T63 ((rd_T50 l0 x16_1).f4) x92_3).f1), .int .i64 ((rd_T63 ((rd_T50 l0 x16_1).f4) x92_3).f2), .int .i64 ((rd_T63 ((rd_T50 l0 x16_1).f4) x92_3).f3), .int .i64 ((rd_T63 ((rd_T50 l0 x16_1).f4) x92_3).f4.f0), .bool ((rd_T63 ((rd_T50 l0 x16_1).f4) x92_3).f4.f1), .slice A193_6 ((rd_T63 ((rd_T50 l0 x16_1).f4) x92_3).f4.f2).length c193_6, .slice none 0 0]) ?_ 7 _ rfl; (with_reducible repeat (first | refine blk_drewN ?_ _ | refine blk_drew ?_ | refine blk_alloc ?_ _)); refine blk_put (cs := #[.int .i64 ((rd_T63 ((rd_T50 l0 x16_1).f4) x92_3).f0), .int .i64 ((rd_T63 ((rd_T50 l0 x16_1).f4) x92_3).f1), .int .i64 ((rd_T63 ((rd_T50 l0 x16_1).f4) x92_3).f2), .int .i64 ((rd_T63 ((rd_T50 l0 x16_1).f4) x92_3).f3), .int .i64 ((rd_T63 ((rd_T50 l0 x16_1).f4) x92_3).f4.f0), .bool ((rd_T63 ((rd_T50 l0 x16_1).f4) x92_3).f4.f1), .slice none 0 0, .slice none 0 0]) ?_ 6 _ rfl; (with_reducible repeat (first | refine blk_drewN ?_ _ | refine blk_drew ?_ | refine blk_alloc ?_ _)); refine blk_put (cs := #[.int .i64 ((rd_T63 ((rd_T50 l0 x16_1).f4) x92_3).f0), .int .i64 ((rd_T63 ((rd_T50 l0 x16_1).f4) x92_3).f1), .int .i64 ((rd_T63 ((rd_T50 l0 x16_1).f4) x92_3).f2), .int .i64 ((rd_T63 ((rd_T50 l0 x16_1).f4) x92_3).f3), .int .i64 ((rd_T63 ((rd_T50 l0 x16_1).f4) x92_3).f4.f0), .bool false, .slice none 0 0, .slice none 0 0]) ?_ 5 _ rfl; (with_reducible repeat (first | refine blk_drewN ?_ _ | refine blk_drew ?_ | refine blk_alloc ?_ _)); refine blk_put (cs := #[.int .i64 ((rd_T63 ((rd_T50 l0 x16_1).f4) x92_3).f0), .int .i64 ((rd_T63 ((rd_T50 l0 x16_1).f4) x92_3).f1), .int .i64 ((rd_T63 ((rd_T50 l0 x16_1).f4) x92_3).f2), .int .i64 ((rd_T63 ((rd_T50 l0 x16_1).f4) x92_3).f3), .int .i64 0, .bool false, .slice none 0 0, .slice none 0 0]) ?_ 4 _ rfl; (with_reducible repeat (first | refine blk_drewN ?_ _ | refine blk_drew ?_ | refine blk_alloc ?_ _)); refine blk_put (cs := #[.int .i64 ((rd_T63 ((rd_T50 l0 x16_1).f4) x92_3).f0), .int .i64 ((rd_T63 ((rd_T50 l0 x16_1).f4) x92_3).f1), .int .i64 ((rd_T63 ((rd_T50 l0 x16_1).f4) x92_3).f2), .int .i64 0, .int .i64 0, .bool false, .slice none 0 0, .slice none 0 0]) ?_ 3 _ rfl; (with_reducible repeat (first | refine blk_drewN ?_ _ | refine blk_drew ?_ | refine blk_alloc ?_ _)); refine blk_put (cs := #[.int .i64 ((rd_T63 ((rd_T50 l0 x16_1).f4) x92_3).f0), .int .i64 ((rd_T63 ((rd_T50 l0 x16_1).f4) x92_3).f1), .int .i64 0, .int .i64 0, .int .i64 0, .bool false, .slice none 0 0, .slice none 0 0]) ?_ 2 _ rfl; (with_reducible repeat (first | refine blk_drewN ?_ _ | refine blk_drew ?_ | refine blk_alloc ?_ _)); refine blk_put (cs := #[.int .i64 ((rd_T63 ((rd_T50 l0 x16_1).f4) x92_3).f0), .int .i64 0, .int .i64 0, .int .i64 0, .int .i64 0, .bool false, .slice none 0 0, .slice none 0 0]) ?_ 1 _ rfl; (with_reducible repeat (first | refine blk_drewN ?_ _ | refine blk_drew ?_ | refine blk_alloc ?_ _)); refine blk_put (cs := #[.int .i64 0, .int .i64 0, .int .i64 0, .int .i64 0, .int .i64 0, .bool false, .slice none 0 0, .slice none 0 0]) ?_ 0 _ rfl; (with_reducible repeat (first | refine blk_drewN ?_ _ | refine blk_drew ?_ | refine blk_alloc ?_ _)); exact BK194.out)) : gb197 ≠ gb194)); clear BK194; clear HB; have BK194 := n0_; have HB := n1_; have BK197 := n2_; have GW197 := n3_; have GE197 := n4_; have NB194_197 := n5_; have NB197_194 := n6_; clear n0_ n1_ n2_ n3_ n4_ n5_ n6_; clear hb hbox hg; have hnb50 := NB197_194.out; have hnc50 := NB194_197.out; have hczq2_0 := blk_cell BK197.out 0; have hczq2_1 := blk_cell BK197.out 1; have hczq2_2 := blk_cell BK197.out 2; have hczq2_3 := blk_cell BK197.out 3; have hczq2_4 := blk_cell BK197.out 4; have hczq2_5 := blk_cell BK197.out 5; have hczq2_6 := blk_cell BK197.out 6; have hczq2_7 := blk_cell BK197.out 7; have hfzq2_0 := blk_frozen BK197.out 0; have hfzq2_1 := blk_frozen BK197.out 1; have hfzq2_2 := blk_frozen BK197.out 2; have hfzq2_3 := blk_frozen BK197.out 3; have hfzq2_4 := blk_frozen BK197.out 4; have hfzq2_5 := blk_frozen BK197.out 5; have hfzq2_6 := blk_frozen BK197.out 6; have hfzq2_7 := blk_frozen BK197.out 7; have hczq3_0 := blk_cell BK194.out 0; have hczq3_1 := blk_cell BK194.out 1; have hczq3_2 := blk_cell BK194.out 2; have hczq3_3 := blk_cell BK194.out 3; have hczq3_4 := blk_cell BK194.out 4; have hczq3_5 := blk_cell BK194.out 5; have hczq3_6 := blk_cell BK194.out 6; have hczq3_7 := blk_cell BK194.out 7; have hfzq3_0 := blk_frozen BK194.out 0; have hfzq3_1 := blk_frozen BK194.out 1; have hfzq3_2 := blk_frozen BK194.out 2; have hfzq3_3 := blk_frozen BK194.out 3; have hfzq3_4 := blk_frozen BK194.out 4; have hfzq3_5 := blk_frozen BK194.out 5; have hfzq3_6 := blk_frozen BK194.out 6; have hfzq3_7 := blk_frozen BK194.out 7) | (go_at_call 37; (with_reducible refine (fluxionref29_Equal.calls k3 ((rd_T63 ((rd_T50 l0 x16_1).f4) x92_3).f4.f0) ((rd_T63 ((rd_T50 l0 x16_1).f4) x92_3).f4.f1) _ _ ((rd_T63 ((rd_T50 l0 x16_1).f4) x92_3).f4.f2) _ _ ((rd_T63 ((rd_T50 l0 x16_1).f4) x92_3).f4.f3) ((rd_T63 ((rd_T50 l1 x16_1).f4) x92_3).f4.f0) ((rd_T63 ((rd_T50 l1 x16_1).f4) x92_3).f4.f1) _ _ ((rd_T63 ((rd_T50 l1 x16_1).f4) x92_3).f4.f2) _ _ ((rd_T63 ((rd_T50 l1 x16_1).f4) x92_3).f4.f3) false _ ?side1 ?side2 ?side3 ?side4 ?side5 ?side6 ?side7 ?side8 A38.out).mono ?_); (case side1 => exact Kd.C_below HR193_6.out (bl HB)); (case side2 => exact HC193_6.out); (case side3 => exact Kd.C_below HR193_7.out (bl HB)); (case side4 => exact HC193_7.out); (case side5 => exact Kd.C_below HR196_6.out (bl HB)); (case side6 => exact HC196_6.out); (case side7 => exact Kd.C_below HR196_7.out (bl HB)); (case side8 => exact HC196_7.out); rintro e wq3 ⟨rfl, hb⟩; replace BK194 := Aside0.mk (blk_below (g := gb194) (o := .cells #[.int .i64 ((rd_T63 ((rd_T50 l0 x16_1).f4) x92_3).f0), .int .i64 ((rd_T63 ((rd_T50 l0 x16_1).f4) x92_3).f1), .int .i64 ((rd_T63 ((rd_T50 l0 x16_1).f4) x92_3).f2), .int .i64 ((rd_T63 ((rd_T50 l0 x16_1).f4) x92_3).f3), .int .i64 ((rd_T63 ((rd_T50 l0 x16_1).f4) x92_3).f4.f0), .bool ((rd_T63 ((rd_T50 l0 x16_1).f4) x92_3).f4.f1), .slice A193_6 ((rd_T63 ((rd_T50 l0 x16_1).f4) x92_3).f4.f2).length c193_6, .slice A193_7 ((rd_T63 ((rd_T50 l0 x16_1).f4) x92_3).f4.f3).length c193_7] 63 (0, 0)) (by (with_reducible repeat (first | refine blk_drewN ?_ _ | refine blk_drew ?_ | refine blk_alloc ?_ _)); refine blk_far ?_ NB194_197.out _; (with_reducible repeat (first | refine blk_drewN ?_ _ | refine blk_drew ?_ | refine blk_alloc ?_ _)); refine blk_far ?_ NB194_197.out _; (with_reducible repeat (first | refine blk_drewN ?_ _ | refine blk_drew ?_ | refine blk_alloc ?_ _)); refine blk_far ?_ NB194_197.out _; (with_reducible repeat (first | refine blk_drewN ?_ _ | refine blk_drew ?_ | refine blk_alloc ?_ _)); refine blk_far ?_ NB194_197.out _; (with_reducible repeat (first | refine blk_drewN ?_ _ | refine blk_drew ?_ | refine blk_alloc ?_ _)); refine blk_far ?_ NB194_197.out _; (with_reducible repeat (first | refine blk_drewN ?_ _ | refine blk_drew ?_ | refine blk_alloc ?_ _)); refine blk_far ?_ NB194_197.out _; (with_reducible repeat (first | refine blk_drewN ?_ _ | refine blk_drew ?_ | refine blk_alloc ?_ _)); refine blk_far ?_ NB194_197.out _; (with_reducible repeat (first | refine blk_drewN ?_ _ | refine blk_drew ?_ | refine blk_alloc ?_ _)); refine blk_far ?_ NB194_197.out _; (with_reducible repeat (first | refine blk_drewN ?_ _ | refine blk_drew ?_ | refine blk_alloc ?_ _)); exact BK194.out) hb); replace BK197 := Aside0.mk (blk_below (g := gb197) (o := .cells #[.int .i64 ((rd_T63 ((rd_T50 l1 x16_1).f4) x92_3).f0), .int .i64 ((rd_T63 ((rd_T50 l1 x16_1).f4) x92_3).f1), .int .i64 ((rd_T63 ((rd_T50 l1 x16_1).f4) x92_3).f2), .int .i64 ((rd_T63 ((rd_T50 l1 x16_1).f4) x92_3).f3), .int .i64 ((rd_T63 ((rd_T50 l1 x16_1).f4) x92_3).f4.f0), .bool ((rd_T63 ((rd_T50 l1 x16_1).f4) x92_3).f4.f1), .slice A196_6 ((rd_T63 ((rd_T50 l1 x16_1).f4) x92_3).f4.f2).length c196_6, .slice A196_7 ((rd_T63 ((rd_T50 l1 x16_1).f4) x92_3).f4.f3).length c196_7] 63 (0, 0)) (by (with_reducible repeat (first | refine blk_drewN ?_ _ | refine blk_drew ?_ | refine blk_alloc ?_ _)); refine blk_put (cs := #[.int .i64 ((rd_T63 ((rd_T50 l1 x16_1).f4) x92_3).f0), .int .i64 ((rd_T63 ((rd_T50 l1 x16_1).f4) x92_3).f1), .int .i64 ((rd_T63 ((rd_T50 l1 x16_1).f4) x92_3).f2), .int .i64 ((rd_T63 ((rd_T50 l1 x16_1).f4) x92_3).f3), .int .i64 ((rd_T63 ((rd_T50 l1 x16_1).f4) x92_3).f4.f0), .bool ((rd_T63 ((rd_T50 l1 x16_1).f4) x92_3).f4.f1), .slice A196_6 ((rd_T63 ((rd_T50 l1 x16_1).f4) x92_3).f4.f2).length c196_6, .slice none 0 0]) ?_ 7 _ rfl; (with_reducible repeat (first | refine blk_drewN ?_ _ | refine blk_drew ?_ | refine blk_alloc ?_ _)); refine blk_put (cs := #[.int .i64 ((rd_T63 ((rd_T50 l1 x16_1).f4) x92_3).f0), .int .i64 ((rd_T63 ((rd_T50 l1 x16_1).f4) x92_3).f1), .int .i64 ((rd_T63 ((rd_T50 l1 x16_1).f4) x92_3).f2), .int .i64 ((rd_T63 ((rd_T50 l1 x16_1).f4) x92_3).f3), .int .i64 ((rd_T63 ((rd_T50 l1 x16_1).f4) x92_3).f4.f0), .bool ((rd_T63 ((rd_T50 l1 x16_1).f4) x92_3).f4.f1), .slice none 0 0, .slice none 0 0]) ?_ 6 _ rfl; (with_reducible repeat (first | refine blk_drewN ?_ _ | refine blk_drew ?_ | refine blk_alloc ?_ _)); refine blk_put (cs := #[.int .i64 ((rd_T63 ((rd_T50 l1 x16_1).f4) x92_3).f0), .int .i64 ((rd_T63 ((rd_T50 l1 x16_1).f4) x92_3).f1), .int .i64 ((rd_T63 ((rd_T50 l1 x16_1).f4) x92_3).f2), .int .i64 ((rd_T63 ((rd_T50 l1 x16_1).f4) x92_3).f3), .int .i64 ((rd_T63 ((rd_T50 l1 x16_1).f4) x92_3).f4.f0), .bool false, .slice none 0 0, .slice none 0 0]) ?_ 5 _ rfl; (with_reducible repeat (first | refine blk_drewN ?_ _ | refine blk_drew ?_ | refine blk_alloc ?_ _)); refine blk_put (cs := #[.int .i64 ((rd_T63 ((rd_T50 l1 x16_1).f4) x92_3).f0), .int .i64 ((rd_T63 ((rd_T50 l1 x16_1).f4) x92_3).f1), .int .i64 ((rd_T63 ((rd_T50 l1 x16_1).f4) x92_3).f2), .int .i64 ((rd_T63 ((rd_T50 l1 x16_1).f4) x92_3).f3), .int .i64 0, .bool false, .slice none 0 0, .slice none 0 0]) ?_ 4 _ rfl; (with_reducible repeat (first | refine blk_drewN ?_ _ | refine blk_drew ?_ | refine blk_alloc ?_ _)); refine blk_put (cs := #[.int .i64 ((rd_T63 ((rd_T50 l1 x16_1).f4) x92_3).f0), .int .i64 ((rd_T63 ((rd_T50 l1 x16_1).f4) x92_3).f1), .int .i64 ((rd_T63 ((rd_T50 l1 x16_1).f4) x92_3).f2), .int .i64 0, .int .i64 0, .bool false, .slice none 0 0, .slice none 0 0]) ?_ 3 _ rfl; (with_reducible repeat (first | refine blk_drewN ?_ _ | refine blk_drew ?_ | refine blk_alloc ?_ _)); refine blk_put (cs := #[.int .i64 ((rd_T63 ((rd_T50 l1 x16_1).f4) x92_3).f0), .int .i64 ((rd_T63 ((rd_T50 l1 x16_1).f4) x92_3).f1), .int .i64 0, .int .i64 0, .int .i64 0, .bool false, .slice none 0 0, .slice none 0 0]) ?_ 2 _ rfl; (with_reducible repeat (first | refine blk_drewN ?_ _ | refine blk_drew ?_ | refine blk_alloc ?_ _)); refine blk_put (cs := #[.int .i64 ((rd_T63 ((rd_T50 l1 x16_1).f4) x92_3).f0), .int .i64 0, .int .i64 0, .int .i64 0, .int .i64 0, .bool false, .slice none 0 0, .slice none 0 0]) ?_ 1 _ rfl; (with_reducible repeat (first | refine blk_drewN ?_ _ | refine blk_drew ?_ | refine blk_alloc ?_ _)); refine blk_put (cs := #[.int .i64 0, .int .i64 0, .int .i64 0, .int .i64 0, .int .i64 0, .bool false, .slice none 0 0, .slice none 0 0]) ?_ 0 _ rfl; (with_reducible repeat (first | refine blk_drewN ?_ _ | refine blk_drew ?_ | refine blk_alloc ?_ _)); exact BK197.out) hb); replace HB := Aside0.mk (below_step (bl HB) hb); clear hb) | ((with_reducible refine gate_dst (N := 8) rfl ?_); (try (refine gate_guard (by rfl) ?_; dsimp only)); refine bx (N := 8) (cs := #[.int .i64 0, .int .i64 0, .int .i64 0, .int .i64 0, .int .i64 0, .bool false, .slice none 0 0, .slice none 0 0]) (t := 63) ?_; intro gb197 hg wq2 hbox hb; have n0_ := Aside0.mk (blk_below (g := gb194) (o := .cells #[.int .i64 ((rd_T63 ((rd_T50 l0 x16_1).f4) x92_3).f0), .int .i64 ((rd_T63 ((rd_T50 l0 x16_1).f4) x92_3).f1), .int .i64 ((rd_T63 ((rd_T50 l0 x16_1).f4) x92_3).f2), .int .i64 ((rd_T63 ((rd_T50 l0 x16_1).f4) x92_3).f3), .int .i64 ((rd_T63 ((rd_T50 l0 x16_1).f4) x92_3).f4.f0), .bool ((rd_T63 ((rd_T50 l0 x16_1).f4) x92_3).f4.f1), .slice A193_6 ((rd_T63 ((rd_T50 l0 x16_1).f4) x92_3).f4.f2).length c193_6, .slice A193_7 ((rd_T63 ((rd_T50 l0 x16_1).f4) x92_3).f4.f3).length c193_7] 63 (0, 0)) (by (with_reducible repeat (first | refine blk_drewN ?_ _ | refine blk_drew ?_ | refine blk_alloc ?_ _)); refine blk_put (cs := #[.int .i64 ((rd_T63 ((rd_T50 l0 x16_1).f4) x92_3).f0), .int .i64 ((rd_T63 ((rd_T50 l0 x16_1).f4) x92_3).f1), .int .i64 ((rd_T63 ((rd_T50 l0 x16_1).f4) x92_3).f2), .int .i64 ((rd_T63 ((rd_T50 l0 x16_1).f4) x92_3).f3), .int .i64 ((rd_T63 ((rd_T50 l0 x16_1).f4) x92_3).f4.f0), .bool ((rd_T63 ((rd_T50 l0 x16_1).f4) x92_3).f4.f1), .slice A193_6 ((rd_T63 ((rd_T50 l0 x16_1).f4) x92_3).f4.f2).length c193_6, .slice none 0 0]) ?_ 7 _ rfl; (with_reducible repeat (first | refine blk_drewN ?_ _ | refine blk_drew ?_ | refine blk_alloc ?_ _)); refine blk_put (cs := #[.int .i64 ((rd_T63 ((rd_T50 l0 x16_1).f4) x92_3).f0), .int .i64 ((rd_T63 ((rd_T50 l0 x16_1).f4) x92_3).f1), .int .i64 ((rd_T63 ((rd_T50 l0 x16_1).f4) x92_3).f2), .int .i64 ((rd_T63 ((rd_T50 l0 x16_1).f4) x92_3).f3), .int .i64 ((rd_T63 ((rd_T50 l0 x16_1).f4) x92_3).f4.f0), .bool ((rd_T63 ((rd_T50 l0 x16_1).f4) x92_3).f4.f1), .slice none 0 0, .slice none 0 0]) ?_ 6 _ rfl; (with_reducible repeat (first | refine blk_drewN ?_ _ | refine blk_drew ?_ | refine blk_alloc ?_ _)); refine blk_put (cs := #[.int .i64 ((rd_T63 ((rd_T50 l0 x16_1).f4) x92_3).f0), .int .i64 ((rd_T63 ((rd_T50 l0 x16_1).f4) x92_3).f1), .int .i64 ((rd_T63 ((rd_T50 l0 x16_1).f4) x92_3).f2), .int .i64 ((rd_T63 ((rd_T50 l0 x16_1).f4) x92_3).f3), .int .i64 ((rd_T63 ((rd_T50 l0 x16_1).f4) x92_3).f4.f0), .bool false, .slice none 0 0, .slice none 0 0]) ?_ 5 _ rfl; (with_reducible repeat (first | refine blk_drewN ?_ _ | refine blk_drew ?_ | refine blk_alloc ?_ _)); refine blk_put (cs := #[.int .i64 ((rd_T63 ((rd_T50 l0 x16_1).f4) x92_3).f0), .int .i64 ((rd_T63 ((rd_T50 l0 x16_1).f4) x92_3).f1), .int .i64 ((rd_T63 ((rd_T50 l0 x16_1).f4) x92_3).f2), .int .i64 ((rd_T63 ((rd_T50 l0 x16_1).f4) x92_3).f3), .int .i64 0, .bool false, .slice none 0 0, .slice none 0 0]) ?_ 4 _ rfl; (with_reducible repeat (first | refine blk_drewN ?_ _ | refine blk_drew ?_ | refine blk_alloc ?_ _)); refine blk_put (cs := #[.int .i64 ((rd_T63 ((rd_T50 l0 x16_1).f4) x92_3).f0), .int .i64 ((rd_T63 ((rd_T50 l0 x16_1).f4) x92_3).f1), .int .i64 ((rd_T63 ((rd_T50 l0 x16_1).f4) x92_3).f2), .int .i64 0, .int .i64 0, .bool false, .slice none 0 0, .slice none 0 0]) ?_ 3 _ rfl; (with_reducible repeat (first | refine blk_drewN ?_ _ | refine blk_drew ?_ | refine blk_alloc ?_ _)); refine blk_put (cs := #[.int .i64 ((rd_T63 ((rd_T50 l0 x16_1).f4) x92_3).f0), .int .i64 ((rd_T63 ((rd_T50 l0 x16_1).f4) x92_3).f1), .int .i64 0, .int .i64 0, .int .i64 0, .bool false, .slice none 0 0, .slice none 0 0]) ?_ 2 _ rfl; (with_reducible repeat (first | refine blk_drewN ?_ _ | refine blk_drew ?_ | refine blk_alloc ?_ _)); refine blk_put (cs := #[.int .i64 ((rd_T63 ((rd_T50 l0 x16_1).f4) x92_3).f0), .int .i64 0, .int .i64 0, .int .i64 0, .int .i64 0, .bool false, .slice none 0 0, .slice none 0 0]) ?_ 1 _ rfl; (with_reducible repeat (first | refine blk_drewN ?_ _ | refine blk_drew ?_ | refine blk_alloc ?_ _)); refine blk_put (cs := #[.int .i64 0, .int .i64 0, .int .i64 0, .int .i64 0, .int .i64 0, .bool false, .slice none 0 0, .slice none 0 0]) ?_ 0 _ rfl; (with_reducible repeat (first | refine blk_drewN ?_ _ | refine blk_drew ?_ | refine blk_alloc ?_ _)); exact BK194.out) hb); have n1_ := Aside0.mk (below_step (bl HB) hb); have n2_ := Aside0.mk (hbox); have n3_ := (gz hg HB : Aside0 (w.heap.size ≤ gb197)); have n4_ := (gz hg HB : Aside0 (w.heap.size ≤ gb197)); have n5_ := Aside0.mk ((by rw [hg]; exact Nat.ne_of_lt (blk_lt (g := gb194) (o := .cells #[.int .i64 ((rd_T63 ((rd_T50 l0 x16_1).f4) x92_3).f0), .int .i64 ((rd_T63 ((rd_T50 l0 x16_1).f4) x92_3).f1), .int .i64 ((rd_T63 ((rd_T50 l0 x16_1).f4) x92_3).f2), .int .i64 ((rd_T63 ((rd_T50 l0 x16_1).f4) x92_3).f3), .int .i64 ((rd_T63 ((rd_T50 l0 x16_1).f4) x92_3).f4.f0), .bool ((rd_T63 ((rd_T50 l0 x16_1).f4) x92_3).f4.f1), .slice A193_6 ((rd_T63 ((rd_T50 l0 x16_1).f4) x92_3).f4.f2).length c193_6, .slice A193_7 ((rd_T63 ((rd_T50 l0 x16_1).f4) x92_3).f4.f3).length c193_7] 63 (0, 0)) (by (with_reducible repeat (first | refine blk_drewN ?_ _ | refine blk_drew ?_ | refine blk_alloc ?_ _)); refine blk_put (cs := #[.int .i64 ((rd_T63 ((rd_T50 l0 x16_1).f4) x92_3).f0), .int .i64 ((rd_T63 ((rd_T50 l0 x16_1).f4) x92_3).f1), .int .i64 ((rd_T63 ((rd_T50 l0 x16_1).f4) x92_3).f2), .int .i64 ((rd_T63 ((rd_T50 l0 x16_1).f4) x92_3).f3), .int .i64 ((rd_T63 ((rd_T50 l0 x16_1).f4) x92_3).f4.f0), .bool ((rd_T63 ((rd_T50 l0 x16_1).f4) x92_3).f4.f1), .slice A193_6 ((rd_T63 ((rd_T50 l0 x16_1).f4) x92_3).f4.f2).length c193_6, .slice none 0 0]) ?_ 7 _ rfl; (with_reducible repeat (first | refine blk_drewN ?_ _ | refine blk_drew ?_ | refine blk_alloc ?_ _)); refine blk_put (cs := #[.int .i64 ((rd_T63 ((rd_T50 l0 x16_1).f4) x92_3).f0), .int .i64 ((rd_T63 ((rd_T50 l0 x16_1).f4) x92_3).f1), .int .i64 ((rd_T63 ((rd_T50 l0 x16_1).f4) x92_3).f2), .int .i64 ((rd_T63 ((rd_T50 l0 x16_1).f4) x92_3).f3), .int .i64 ((rd_T63 ((rd_T50 l0 x16_1).f4) x92_3).f4.f0), .bool ((rd_T63 ((rd_T50 l0 x16_1).f4) x92_3).f4.f1), .slice none 0 0, .slice none 0 0]) ?_ 6 _ rfl; (with_reducible repeat (first | refine blk_drewN ?_ _ | refine blk_drew ?_ | refine blk_alloc ?_ _)); refine blk_put (cs := #[.int .i64 ((rd_T63 ((rd_T50 l0 x16_1).f4) x92_3).f0), .int .i64 ((rd_T63 ((rd_T50 l0 x16_1).f4) x92_3).f1), .int .i64 ((rd_T63 ((rd_T50 l0 x16_1).f4) x92_3).f2), .int .i64 ((rd_T63 ((rd_T50 l0 x16_1).f4) x92_3).f3), .int .i64 ((rd_T63 ((rd_T50 l0 x16_1).f4) x92_3).f4.f0), .bool false, .slice none 0 0, .slice none 0 0]) ?_ 5 _ rfl; (with_reducible repeat (first | refine blk_drewN ?_ _ | refine blk_drew ?_ | refine blk_alloc ?_ _)); refine blk_put (cs := #[.int .i64 ((rd_T63 ((rd_T50 l0 x16_1).f4) x92_3).f0), .int .i64 ((rd_T63 ((rd_T50 l0 x16_1).f4) x92_3).f1), .int .i64 ((rd_T63 ((rd_T50 l0 x16_1).f4) x92_3).f2), .int .i64 ((rd_T63 ((rd_T50 l0 x16_1).f4) x92_3).f3), .int .i64 0, .bool false, .slice none 0 0, .slice none 0 0]) ?_ 4 _ rfl; (with_reducible repeat (first | refine blk_drewN ?_ _ | refine blk_drew ?_ | refine blk_alloc ?_ _)); refine blk_put (cs := #[.int .i64 ((rd_T63 ((rd_T50 l0 x16_1).f4) x92_3).f0), .int .i64 ((rd_T63 ((rd_T50 l0 x16_1).f4) x92_3).f1), .int .i64 ((rd_T63 ((rd_T50 l0 x16_1).f4) x92_3).f2), .int .i64 0, .int .i64 0, .bool false, .slice none 0 0, .slice none 0 0]) ?_ 3 _ rfl; (with_reducible repeat (first | refine blk_drewN ?_ _ | refine blk_drew ?_ | refine blk_alloc ?_ _)); refine blk_put (cs := #[.int .i64 ((rd_T63 ((rd_T50 l0 x16_1).f4) x92_3).f0), .int .i64 ((rd_T63 ((rd_T50 l0 x16_1).f4) x92_3).f1), .int .i64 0, .int .i64 0, .int .i64 0, .bool false, .slice none 0 0, .slice none 0 0]) ?_ 2 _ rfl; (with_reducible repeat (first | refine blk_drewN ?_ _ | refine blk_drew ?_ | refine blk_alloc ?_ _)); refine blk_put (cs := #[.int .i64 ((rd_T63 ((rd_T50 l0 x16_1).f4) x92_3).f0), .int .i64 0, .int .i64 0, .int .i64 0, .int .i64 0, .bool false, .slice none 0 0, .slice none 0 0]) ?_ 1 _ rfl; (with_reducible repeat (first | refine blk_drewN ?_ _ | refine blk_drew ?_ | refine blk_alloc ?_ _)); refine blk_put (cs := #[.int .i64 0, .int .i64 0, .int .i64 0, .int .i64 0, .int .i64 0, .bool false, .slice none 0 0, .slice none 0 0]) ?_ 0 _ rfl; (with_reducible repeat (first | refine blk_drewN ?_ _ | refine blk_drew ?_ | refine blk_alloc ?_ _)); exact BK194.out)) : gb194 ≠ gb197)); have n6_ := Aside0.mk ((by rw [hg]; exact Nat.ne_of_gt (blk_lt (g := gb194) (o := .cells #[.int .i64 ((rd_T63 ((rd_T50 l0 x16_1).f4) x92_3).f0), .int .i64 ((rd_T63 ((rd_T50 l0 x16_1).f4) x92_3).f1), .int .i64 ((rd_T63 ((rd_T50 l0 x16_1).f4) x92_3).f2), .int .i64 ((rd_T63 ((rd_T50 l0 x16_1).f4) x92_3).f3), .int .i64 ((rd_T63 ((rd_T50 l0 x16_1).f4) x92_3).f4.f0), .bool ((rd_T63 ((rd_T50 l0 x16_1).f4) x92_3).f4.f1), .slice A193_6 ((rd_T63 ((rd_T50 l0 x16_1).f4) x92_3).f4.f2).length c193_6, .slice A193_7 ((rd_T63 ((rd_T50 l0 x16_1).f4) x92_3).f4.f3).length c193_7] 63 (0, 0)) (by (with_reducible repeat (first | refine blk_drewN ?_ _ | refine blk_drew ?_ | refine blk_alloc ?_ _)); refine blk_put (cs := #[.int .i64 ((rd_T63 ((rd_T50 l0 x16_1).f4) x92_3).f0), .int .i64 ((rd_T63 ((rd_T50 l0 x16_1).f4) x92_3).f1), .int .i64 ((rd_T63 ((rd_T50 l0 x16_1).f4) x92_3).f2), .int .i64 ((rd_T63 ((rd_T50 l0 x16_1).f4) x92_3).f3), .int .i64 ((rd_T63 ((rd_T50 l0 x16_1).f4) x92_3).f4.f0), .bool ((rd_T63 ((rd_T50 l0 x16_1).f4) x92_3).f4.f1), .slice A193_6 ((rd_T63 ((rd_T50 l0 x16_1).f4) x92_3).f4.f2).length c193_6, .slice none 0 0]) ?_ 7 _ rfl; (with_reducible repeat (first | refine blk_drewN ?_ _ | refine blk_drew ?_ | refine blk_alloc ?_ _)); refine blk_put (cs := #[.int .i64 ((rd_T63 ((rd_T50 l0 x16_1).f4) x92_3).f0), .int .i64 ((rd_T63 ((rd_T50 l0 x16_1).f4) x92_3).f1), .int .i64 ((rd_T63 ((rd_T50 l0 x16_1).f4) x92_3).f2), .int .i64 ((rd_T63 ((rd_T50 l0 x16_1).f4) x92_3).f3), .int .i64 ((rd_T63 ((rd_T50 l0 x16_1).f4) x92_3).f4.f0), .bool ((rd_T63 ((rd_T50 l0 x16_1).f4) x92_3).f4.f1), .slice none 0 0, .slice none 0 0]) ?_ 6 _ rfl; (with_reducible repeat (first | refine blk_drewN ?_ _ | refine blk_drew ?_ | refine blk_alloc ?_ _)); refine blk_put (cs := #[.int .i64 ((rd_T63 ((rd_T50 l0 x16_1).f4) x92_3).f0), .int .i64 ((rd_T63 ((rd_T50 l0 x16_1).f4) x92_3).f1), .int .i64 ((rd_T63 ((rd_T50 l0 x16_1).f4) x92_3).f2), .int .i64 ((rd_T63 ((rd_T50 l0 x16_1).f4) x92_3).f3), .int .i64 ((rd_T63 ((rd_T50 l0 x16_1).f4) x92_3).f4.f0), .bool false, .slice none 0 0, .slice none 0 0]) ?_ 5 _ rfl; (with_reducible repeat (first | refine blk_drewN ?_ _ | refine blk_drew ?_ | refine blk_alloc ?_ _)); refine blk_put (cs := #[.int .i64 ((rd_T63 ((rd_T50 l0 x16_1).f4) x92_3).f0), .int .i64 ((rd_T63 ((rd_T50 l0 x16_1).f4) x92_3).f1), .int .i64 ((rd_T63 ((rd_T50 l0 x16_1).f4) x92_3).f2), .int .i64 ((rd_T63 ((rd_T50 l0 x16_1).f4) x92_3).f3), .int .i64 0, .bool false, .slice none 0 0, .slice none 0 0]) ?_ 4 _ rfl; (with_reducible repeat (first | refine blk_drewN ?_ _ | refine blk_drew ?_ | refine blk_alloc ?_ _)); refine blk_put (cs := #[.int .i64 ((rd_T63 ((rd_T50 l0 x16_1).f4) x92_3).f0), .int .i64 ((rd_T63 ((rd_T50 l0 x16_1).f4) x92_3).f1), .int .i64 ((rd_T63 ((rd_T50 l0 x16_1).f4) x92_3).f2), .int .i64 0, .int .i64 0, .bool false, .slice none 0 0, .slice none 0 0]) ?_ 3 _ rfl; (with_reducible repeat (first | refine blk_drewN ?_ _ | refine blk_drew ?_ | refine blk_alloc ?_ _)); refine blk_put (cs := #[.int .i64 ((rd_T63 ((rd_T50 l0 x16_1).f4) x92_3).f0), .int .i64 ((rd_T63 ((rd_T50 l0 x16_1).f4) x92_3).f1), .int .i64 0, .int .i64 0, .int .i64 0, .bool false, .slice none 0 0, .slice none 0 0]) ?_ 2 _ rfl; (with_reducible repeat (first | refine blk_drewN ?_ _ | refine blk_drew ?_ | refine blk_alloc ?_ _)); refine blk_put (cs := #[.int .i64 ((rd_T63 ((rd_T50 l0 x16_1).f4) x92_3).f0), .int .i64 0, .int .i64 0, .int .i64 0, .int .i64 0, .bool false, .slice none 0 0, .slice none 0 0]) ?_ 1 _ rfl; (with_reducible repeat (first | refine blk_drewN ?_ _ | refine blk_drew ?_ | refine blk_alloc ?_ _)); refine blk_put (cs := #[.int .i64 0, .int .i64 0, .int .i64 0, .int .i64 0, .int .i64 0, .bool false, .slice none 0 0, .slice none 0 0]) ?_ 0 _ rfl; (with_reducible repeat (first | refine blk_drewN ?_ _ | refine blk_drew ?_ | refine blk_alloc ?_ _)); exact BK194.out)) : gb197 ≠ gb194)); clear BK194; clear HB; have BK194 := n0_; have HB := n1_; have BK197 := n2_; have GW197 := n3_; have GE197 := n4_; have NB194_197 := n5_; have NB197_194 := n6_; clear n0_ n1_ n2_ n3_ n4_ n5_ n6_; clear hb hbox hg; have hnb57 := NB197_194.out; have hnc57 := NB194_197.out; have hczq2_0 := blk_cell BK197.out 0; have hczq2_1 := blk_cell BK197.out 1; have hczq2_2 := blk_cell BK197.out 2; have hczq2_3 := blk_cell BK197.out 3; have hczq2_4 := blk_cell BK197.out 4; have hczq2_5 := blk_cell BK197.out 5; have hczq2_6 := blk_cell BK197.out 6; have hczq2_7 := blk_cell BK197.out 7; have hfzq2_0 := blk_frozen BK197.out 0; have hfzq2_1 := blk_frozen BK197.out 1; have hfzq2_2 := blk_frozen BK197.out 2; have hfzq2_3 := blk_frozen BK197.out 3; have hfzq2_4 := blk_frozen BK197.out 4; have hfzq2_5 := blk_frozen BK197.out 5; have hfzq2_6 := blk_frozen BK197.out 6; have hfzq2_7 := blk_frozen BK197.out 7; have hczq3_0 := blk_cell BK194.out 0; have hczq3_1 := blk_cell BK194.out 1; have hczq3_2 := blk_cell BK194.out 2; have hczq3_3 := blk_cell BK194.out 3; have hczq3_4 := blk_cell BK194.out 4; have hczq3_5 := blk_cell BK194.out 5; have hczq3_6 := blk_cell BK194.out 6; have hczq3_7 := blk_cell BK194.out 7; have hfzq3_0 := blk_frozen BK194.out 0; have hfzq3_1 := blk_frozen BK194.out 1; have hfzq3_2 := blk_frozen BK194.out 2; have hfzq3_3 := blk_frozen BK194.out 3; have hfzq3_4 := blk_frozen BK194.out 4; have hfzq3_5 := blk_frozen BK194.out 5; have hfzq3_6 := blk_frozen BK194.out 6; have hfzq3_7 := blk_frozen BK194.out 7) | ((with_reducible refine gate_dst (N := 8) rfl ?_); (try (refine gate_guard (by rfl) ?_; dsimp only)); refine bx (N := 8) (cs := #[.int .i64 0, .int .i64 0, .int .i64 0, .int .i64 0, .int .i64 0, .bool false, .slice none 0 0, .slice none 0 0]) (t := 63) ?_; intro gb197 hg wq2 hbox hb; have n0_ := Aside0.mk (blk_below (g := gb194) (o := .cells #[.int .i64 ((rd_T63 ((rd_T50 l0 x16_1).f4) x92_3).f0), .int .i64 ((rd_T63 ((rd_T50 l0 x16_1).f4) x92_3).f1), .int .i64 ((rd_T63 ((rd_T50 l0 x16_1).f4) x92_3).f2), .int .i64 ((rd_T63 ((rd_T50 l0 x16_1).f4) x92_3).f3), .int .i64 ((rd_T63 ((rd_T50 l0 x16_1).f4) x92_3).f4.f0), .bool ((rd_T63 ((rd_T50 l0 x16_1).f4) x92_3).f4.f1), .slice A193_6 ((rd_T63 ((rd_T50 l0 x16_1).f4) x92_3).f4.f2).length c193_6, .slice A193_7 ((rd_T63 ((rd_T50 l0 x16_1).f4) x92_3).f4.f3).length c193_7] 63 (0, 0)) (by (with_reducible repeat (first | refine blk_drewN ?_ _ | refine blk_drew ?_ | refine blk_alloc ?_ _)); refine blk_put (cs := #[.int .i64 ((rd_T63 ((rd_T50 l0 x16_1).f4) x92_3).f0), .int .i64 ((rd_T63 ((rd_T50 l0 x16_1).f4) x92_3).f1), .int .i64 ((rd_T63 ((rd_T50 l0 x16_1).f4) x92_3).f2), .int .i64 ((rd_T63 ((rd_T50 l0 x16_1).f4) x92_3).f3), .int .i64 ((rd_T63 ((rd_T50 l0 x16_1).f4) x92_3).f4.f0), .bool ((rd_T63 ((rd_T50 l0 x16_1).f4) x92_3).f4.f1), .slice A193_6 ((rd_T63 ((rd_T50 l0 x16_1).f4) x92_3).f4.f2).length c193_6, .slice none 0 0]) ?_ 7 _ rfl; (with_reducible repeat (first | refine blk_drewN ?_ _ | refine blk_drew ?_ | refine blk_alloc ?_ _)); refine blk_put (cs := #[.int .i64 ((rd_T63 ((rd_T50 l0 x16_1).f4) x92_3).f0), .int .i64 ((rd_T63 ((rd_T50 l0 x16_1).f4) x92_3).f1), .int .i64 ((rd_T63 ((rd_T50 l0 x16_1).f4) x92_3).f2), .int .i64 ((rd_T63 ((rd_T50 l0 x16_1).f4) x92_3).f3), .int .i64 ((rd_T63 ((rd_T50 l0 x16_1).f4) x92_3).f4.f0), .bool ((rd_T63 ((rd_T50 l0 x16_1).f4) x92_3).f4.f1), .slice none 0 0, .slice none 0 0]) ?_ 6 _ rfl; (with_reducible repeat (first | refine blk_drewN ?_ _ | refine blk_drew ?_ | refine blk_alloc ?_ _)); refine blk_put (cs := #[.int .i64 ((rd_T63 ((rd_T50 l0 x16_1).f4) x92_3).f0), .int .i64 ((rd_T63 ((rd_T50 l0 x16_1).f4) x92_3).f1), .int .i64 ((rd_T63 ((rd_T50 l0 x16_1).f4) x92_3).f2), .int .i64 ((rd_T63 ((rd_T50 l0 x16_1).f4) x92_3).f3), .int .i64 ((rd_T63 ((rd_T50 l0 x16_1).f4) x92_3).f4.f0), .bool false, .slice none 0 0, .slice none 0 0]) ?_ 5 _ rfl; (with_reducible repeat (first | refine blk_drewN ?_ _ | refine blk_drew ?_ | refine blk_alloc ?_ _)); refine blk_put (cs := #[.int .i64 ((rd_T63 ((rd_T50 l0 x16_1).f4) x92_3).f0), .int .i64 ((rd_T63 ((rd_T50 l0 x16_1).f4) x92_3).f1), .int .i64 ((rd_T63 ((rd_T50 l0 x16_1).f4) x92_3).f2), .int .i64 ((rd_T63 ((rd_T50 l0 x16_1).f4) x92_3).f3), .int .i64 0, .bool false, .slice none 0 0, .slice none 0 0]) ?_ 4 _ rfl; (with_reducible repeat (first | refine blk_drewN ?_ _ | refine blk_drew ?_ | refine blk_alloc ?_ _)); refine blk_put (cs := #[.int .i64 ((rd_T63 ((rd_T50 l0 x16_1).f4) x92_3).f0), .int .i64 ((rd_T63 ((rd_T50 l0 x16_1).f4) x92_3).f1), .int .i64 ((rd_T63 ((rd_T50 l0 x16_1).f4) x92_3).f2), .int .i64 0, .int .i64 0, .bool false, .slice none 0 0, .slice none 0 0]) ?_ 3 _ rfl; (with_reducible repeat (first | refine blk_drewN ?_ _ | refine blk_drew ?_ | refine blk_alloc ?_ _)); refine blk_put (cs := #[.int .i64 ((rd_T63 ((rd_T50 l0 x16_1).f4) x92_3).f0), .int .i64 ((rd_T63 ((rd_T50 l0 x16_1).f4) x92_3).f1), .int .i64 0, .int .i64 0, .int .i64 0, .bool false, .slice none 0 0, .slice none 0 0]) ?_ 2 _ rfl; (with_reducible repeat (first | refine blk_drewN ?_ _ | refine blk_drew ?_ | refine blk_alloc ?_ _)); refine blk_put (cs := #[.int .i64 ((rd_T63 ((rd_T50 l0 x16_1).f4) x92_3).f0), .int .i64 0, .int .i64 0, .int .i64 0, .int .i64 0, .bool false, .slice none 0 0, .slice none 0 0]) ?_ 1 _ rfl; (with_reducible repeat (first | refine blk_drewN ?_ _ | refine blk_drew ?_ | refine blk_alloc ?_ _)); refine blk_put (cs := #[.int .i64 0, .int .i64 0, .int .i64 0, .int .i64 0, .int .i64 0, .bool false, .slice none 0 0, .slice none 0 0]) ?_ 0 _ rfl; (with_reducible repeat (first | refine blk_drewN ?_ _ | refine blk_drew ?_ | refine blk_alloc ?_ _)); exact BK194.out) hb); have n1_ := Aside0.mk (below_step (bl HB) hb); have n2_ := Aside0.mk (hbox); have n3_ := (gz hg HB : Aside0 (w.heap.size ≤ gb197)); have n4_ := (gz hg HB : Aside0 (w.heap.size ≤ gb197)); have n5_ := Aside0.mk ((by rw [hg]; exact Nat.ne_of_lt (blk_lt (g := gb194) (o := .cells #[.int .i64 ((rd_T63 ((rd_T50 l0 x16_1).f4) x92_3).f0), .int .i64 ((rd_T63 ((rd_T50 l0 x16_1).f4) x92_3).f1), .int .i64 ((rd_T63 ((rd_T50 l0 x16_1).f4) x92_3).f2), .int .i64 ((rd_T63 ((rd_T50 l0 x16_1).f4) x92_3).f3), .int .i64 ((rd_T63 ((rd_T50 l0 x16_1).f4) x92_3).f4.f0), .bool ((rd_T63 ((rd_T50 l0 x16_1).f4) x92_3).f4.f1), .slice A193_6 ((rd_T63 ((rd_T50 l0 x16_1).f4) x92_3).f4.f2).length c193_6, .slice A193_7 ((rd_T63 ((rd_T50 l0 x16_1).f4) x92_3).f4.f3).length c193_7] 63 (0, 0)) (by (with_reducible repeat (first | refine blk_drewN ?_ _ | refine blk_drew ?_ | refine blk_alloc ?_ _)); refine blk_put (cs := #[.int .i64 ((rd_T63 ((rd_T50 l0 x16_1).f4) x92_3).f0), .int .i64 ((rd_T63 ((rd_T50 l0 x16_1).f4) x92_3).f1), .int .i64 ((rd_T63 ((rd_T50 l0 x16_1).f4) x92_3).f2), .int .i64 ((rd_T63 ((rd_T50 l0 x16_1).f4) x92_3).f3), .int .i64 ((rd_T63 ((rd_T50 l0 x16_1).f4) x92_3).f4.f0), .bool ((rd_T63 ((rd_T50 l0 x16_1).f4) x92_3).f4.f1), .slice A193_6 ((rd_T63 ((rd_T50 l0 x16_1).f4) x92_3).f4.f2).length c193_6, .slice none 0 0]) ?_ 7 _ rfl; (with_reducible repeat (first | refine blk_drewN ?_ _ | refine blk_drew ?_ | refine blk_alloc ?_ _)); refine blk_put (cs := #[.int .i64 ((rd_T63 ((rd_T50 l0 x16_1).f4) x92_3).f0), .int .i64 ((rd_T63 ((rd_T50 l0 x16_1).f4) x92_3).f1), .int .i64 ((rd_T63 ((rd_T50 l0 x16_1).f4) x92_3).f2), .int .i64 ((rd_T63 ((rd_T50 l0 x16_1).f4) x92_3).f3), .int .i64 ((rd_T63 ((rd_T50 l0 x16_1).f4) x92_3).f4.f0), .bool ((rd_T63 ((rd_T50 l0 x16_1).f4) x92_3).f4.f1), .slice none 0 0, .slice none 0 0]) ?_ 6 _ rfl; (with_reducible repeat (first | refine blk_drewN ?_ _ | refine blk_drew ?_ | refine blk_alloc ?_ _)); refine blk_put (cs := #[.int .i64 ((rd_T63 ((rd_T50 l0 x16_1).f4) x92_3).f0), .int .i64 ((rd_T63 ((rd_T50 l0 x16_1).f4) x92_3).f1), .int .i64 ((rd_T63 ((rd_T50 l0 x16_1).f4) x92_3).f2), .int .i64 ((rd_T63 ((rd_T50 l0 x16_1).f4) x92_3).f3), .int .i64 ((rd_T63 ((rd_T50 l0 x16_1).f4) x92_3).f4.f0), .bool false, .slice none 0 0, .slice none 0 0]) ?_ 5 _ rfl; (with_reducible repeat (first | refine blk_drewN ?_ _ | refine blk_drew ?_ | refine blk_alloc ?_ _)); refine blk_put (cs := #[.int .i64 ((rd_T63 ((rd_T50 l0 x16_1).f4) x92_3).f0), .int .i64 ((rd_T63 ((rd_T50 l0 x16_1).f4) x92_3).f1), .int .i64 ((rd_T63 ((rd_T50 l0 x16_1).f4) x92_3).f2), .int .i64 ((rd_T63 ((rd_T50 l0 x16_1).f4) x92_3).f3), .int .i64 0, .bool false, .slice none 0 0, .slice none 0 0]) ?_ 4 _ rfl; (with_reducible repeat (first | refine blk_drewN ?_ _ | refine blk_drew ?_ | refine blk_alloc ?_ _)); refine blk_put (cs := #[.int .i64 ((rd_T63 ((rd_T50 l0 x16_1).f4) x92_3).f0), .int .i64 ((rd_T63 ((rd_T50 l0 x16_1).f4) x92_3).f1), .int .i64 ((rd_T63 ((rd_T50 l0 x16_1).f4) x92_3).f2), .int .i64 0, .int .i64 0, .bool false, .slice none 0 0, .slice none 0 0]) ?_ 3 _ rfl; (with_reducible repeat (first | refine blk_drewN ?_ _ | refine blk_drew ?_ | refine blk_alloc ?_ _)); refine blk_put (cs := #[.int .i64 ((rd_T63 ((rd_T50 l0 x16_1).f4) x92_3).f0), .int .i64 ((rd_T63 ((rd_T50 l0 x16_1).f4) x92_3).f1), .int .i64 0, .int .i64 0, .int .i64 0, .bool false, .slice none 0 0, .slice none 0 0]) ?_ 2 _ rfl; (with_reducible repeat (first | refine blk_drewN ?_ _ | refine blk_drew ?_ | refine blk_alloc ?_ _)); refine blk_put (cs := #[.int .i64 ((rd_T63 ((rd_T50 l0 x16_1).f4) x92_3).f0), .int .i64 0, .int .i64 0, .int .i64 0, .int .i64 0, .bool false, .slice none 0 0, .slice none 0 0]) ?_ 1 _ rfl; (with_reducible repeat (first | refine blk_drewN ?_ _ | refine blk_drew ?_ | refine blk_alloc ?_ _)); refine blk_put (cs := #[.int .i64 0, .int .i64 0, .int .i64 0, .int .i64 0, .int .i64 0, .bool false, .slice none 0 0, .slice none 0 0]) ?_ 0 _ rfl; (with_reducible repeat (first | refine blk_drewN ?_ _ | refine blk_drew ?_ | refine blk_alloc ?_ _)); exact BK194.out)) : gb194 ≠ gb197)); have n6_ := Aside0.mk ((by rw [hg]; exact Nat.ne_of_gt (blk_lt (g := gb194) (o := .cells #[.int .i64 ((rd_T63 ((rd_T50 l0 x16_1).f4) x92_3).f0), .int .i64 ((rd_T63 ((rd_T50 l0 x16_1).f4) x92_3).f1), .int .i64 ((rd_T63 ((rd_T50 l0 x16_1).f4) x92_3).f2), .int .i64 ((rd_T63 ((rd_T50 l0 x16_1).f4) x92_3).f3), .int .i64 ((rd_T63 ((rd_T50 l0 x16_1).f4) x92_3).f4.f0), .bool ((rd_T63 ((rd_T50 l0 x16_1).f4) x92_3).f4.f1), .slice A193_6 ((rd_T63 ((rd_T50 l0 x16_1).f4) x92_3).f4.f2).length c193_6, .slice A193_7 ((rd_T63 ((rd_T50 l0 x16_1).f4) x92_3).f4.f3).length c193_7] 63 (0, 0)) (by (with_reducible repeat (first | refine blk_drewN ?_ _ | refine blk_drew ?_ | refine blk_alloc ?_ _)); refine blk_put (cs := #[.int .i64 ((rd_T63 ((rd_T50 l0 x16_1).f4) x92_3).f0), .int .i64 ((rd_T63 ((rd_T50 l0 x16_1).f4) x92_3).f1), .int .i64 ((rd_T63 ((rd_T50 l0 x16_1).f4) x92_3).f2), .int .i64 ((rd_T63 ((rd_T50 l0 x16_1).f4) x92_3).f3), .int .i64 ((rd_T63 ((rd_T50 l0 x16_1).f4) x92_3).f4.f0), .bool ((rd_T63 ((rd_T50 l0 x16_1).f4) x92_3).f4.f1), .slice A193_6 ((rd_T63 ((rd_T50 l0 x16_1).f4) x92_3).f4.f2).length c193_6, .slice none 0 0]) ?_ 7 _ rfl; (with_reducible repeat (first | refine blk_drewN ?_ _ | refine blk_drew ?_ | refine blk_alloc ?_ _)); refine blk_put (cs := #[.int .i64 ((rd_T63 ((rd_T50 l0 x16_1).f4) x92_3).f0), .int .i64 ((rd_T63 ((rd_T50 l0 x16_1).f4) x92_3).f1), .int .i64 ((rd_T63 ((rd_T50 l0 x16_1).f4) x92_3).f2), .int .i64 ((rd_T63 ((rd_T50 l0 x16_1).f4) x92_3).f3), .int .i64 ((rd_T63 ((rd_T50 l0 x16_1).f4) x92_3).f4.f0), .bool ((rd_T63 ((rd_T50 l0 x16_1).f4) x92_3).f4.f1), .slice none 0 0, .slice none 0 0]) ?_ 6 _ rfl; (with_reducible repeat (first | refine blk_drewN ?_ _ | refine blk_drew ?_ | refine blk_alloc ?_ _)); refine blk_put (cs := #[.int .i64 ((rd_T63 ((rd_T50 l0 x16_1).f4) x92_3).f0), .int .i64 ((rd_T63 ((rd_T50 l0 x16_1).f4) x92_3).f1), .int .i64 ((rd_T63 ((rd_T50 l0 x16_1).f4) x92_3).f2), .int .i64 ((rd_T63 ((rd_T50 l0 x16_1).f4) x92_3).f3), .int .i64 ((rd_T63 ((rd_T50 l0 x16_1).f4) x92_3).f4.f0), .bool false, .slice none 0 0, .slice none 0 0]) ?_ 5 _ rfl; (with_reducible repeat (first | refine blk_drewN ?_ _ | refine blk_drew ?_ | refine blk_alloc ?_ _)); refine blk_put (cs := #[.int .i64 ((rd_T63 ((rd_T50 l0 x16_1).f4) x92_3).f0), .int .i64 ((rd_T63 ((rd_T50 l0 x16_1).f4) x92_3).f1), .int .i64 ((rd_T63 ((rd_T50 l0 x16_1).f4) x92_3).f2), .int .i64 ((rd_T63 ((rd_T50 l0 x16_1).f4) x92_3).f3), .int .i64 0, .bool false, .slice none 0 0, .slice none 0 0]) ?_ 4 _ rfl; (with_reducible repeat (first | refine blk_drewN ?_ _ | refine blk_drew ?_ | refine blk_alloc ?_ _)); refine blk_put (cs := #[.int .i64 ((rd_T63 ((rd_T50 l0 x16_1).f4) x92_3).f0), .int .i64 ((rd_T63 ((rd_T50 l0 x16_1).f4) x92_3).f1), .int .i64 ((rd_T63 ((rd_T50 l0 x16_1).f4) x92_3).f2), .int .i64 0, .int .i64 0, .bool false, .slice none 0 0, .slice none 0 0]) ?_ 3 _ rfl; (with_reducible repeat (first | refine blk_drewN ?_ _ | refine blk_drew ?_ | refine blk_alloc ?_ _)); refine blk_put (cs := #[.int .i64 ((rd_T63 ((rd_T50 l0 x16_1).f4) x92_3).f0), .int .i64 ((rd_T63 ((rd_T50 l0 x16_1).f4) x92_3).f1), .int .i64 0, .int .i64 0, .int .i64 0, .bool false, .slice none 0 0, .slice none 0 0]) ?_ 2 _ rfl; (with_reducible repeat (first | refine blk_drewN ?_ _ | refine blk_drew ?_ | refine blk_alloc ?_ _)); refine blk_put (cs := #[.int .i64 ((rd_T63 ((rd_T50 l0 x16_1).f4) x92_3).f0), .int .i64 0, .int .i64 0, .int .i64 0, .int .i64 0, .bool false, .slice none 0 0, .slice none 0 0]) ?_ 1 _ rfl; (with_reducible repeat (first | refine blk_drewN ?_ _ | refine blk_drew ?_ | refine blk_alloc ?_ _)); refine blk_put (cs := #[.int .i64 0, .int .i64 0, .int .i64 0, .int .i64 0, .int .i64 0, .bool false, .slice none 0 0, .slice none 0 0]) ?_ 0 _ rfl; (with_reducible repeat (first | refine blk_drewN ?_ _ | refine blk_drew ?_ | refine blk_alloc ?_ _)); exact BK194.out)) : gb197 ≠ gb194)); clear BK194; clear HB; have BK194 := n0_; have HB := n1_; have BK197 := n2_; have GW197 := n3_; have GE197 := n4_; have NB194_197 := n5_; have NB197_194 := n6_; clear n0_ n1_ n2_ n3_ n4_ n5_ n6_; clear hb hbox hg; have hnb63 := NB197_194.out; have hnc63 := NB194_197.out; have hczq2_0 := blk_cell BK197.out 0; have hczq2_1 := blk_cell BK197.out 1; have hczq2_2 := blk_cell BK197.out 2; have hczq2_3 := blk_cell BK197.out 3; have hczq2_4 := blk_cell BK197.out 4; have hczq2_5 := blk_cell BK197.out 5; have hczq2_6 := blk_cell BK197.out 6; have hczq2_7 := blk_cell BK197.out 7; have hfzq2_0 := blk_frozen BK197.out 0; have hfzq2_1 := blk_frozen BK197.out 1; have hfzq2_2 := blk_frozen BK197.out 2; have hfzq2_3 := blk_frozen BK197.out 3; have hfzq2_4 := blk_frozen BK197.out 4; have hfzq2_5 := blk_frozen BK197.out 5; have hfzq2_6 := blk_frozen BK197.out 6; have hfzq2_7 := blk_frozen BK197.out 7; have hczq3_0 := blk_cell BK194.out 0; have hczq3_1 := blk_cell BK194.out 1; have hczq3_2 := blk_cell BK194.out 2; have hczq3_3 := blk_cell BK194.out 3; have hczq3_4 := blk_cell BK194.out 4; have hczq3_5 := blk_cell BK194.out 5; have hczq3_6 := blk_cell BK194.out 6; have hczq3_7 := blk_cell BK194.out 7; have hfzq3_0 := blk_frozen BK194.out 0; have hfzq3_1 := blk_frozen BK194.out 1; have hfzq3_2 := blk_frozen BK194.out 2; have hfzq3_3 := blk_frozen BK194.out 3; have hfzq3_4 := blk_frozen BK194.out 4; have hfzq3_5 := blk_frozen BK194.out 5; have hfzq3_6 := blk_frozen BK194.out 6; have hfzq3_7 := blk_frozen BK194.out 7) | ((with_reducible refine gate_dst (N := 8) rfl ?_); (try (refine gate_guard (by rfl) ?_; dsimp only)); refine bx (N := 8) (cs := #[.int .i64 0, .int .i64 0, .int .i64 0, .int .i64 0, .int .i64 0, .bool false, .slice none 0 0, .slice none 0 0]) (t := 63) ?_; intro gb197 hg wq2 hbox hb; have n0_ := Aside0.mk (blk_below (g := gb194) (o := .cells #[.int .i64 ((rd_T63 ((rd_T50 l0 x16_1).f4) x92_3).f0), .int .i64 ((rd_T63 ((rd_T50 l0 x16_1).f4) x92_3).f1), .int .i64 ((rd_T63 ((rd_T50 l0 x16_1).f4) x92_3).f2), .int .i64 ((rd_T63 ((rd_T50 l0 x16_1).f4) x92_3).f3), .int .i64 ((rd_T63 ((rd_T50 l0 x16_1).f4) x92_3).f4.f0), .bool ((rd_T63 ((rd_T50 l0 x16_1).f4) x92_3).f4.f1), .slice A193_6 ((rd_T63 ((rd_T50 l0 x16_1).f4) x92_3).f4.f2).length c193_6, .slice A193_7 ((rd_T63 ((rd_T50 l0 x16_1).f4) x92_3).f4.f3).length c193_7] 63 (0, 0)) (by (with_reducible repeat (first | refine blk_drewN ?_ _ | refine blk_drew ?_ | refine blk_alloc ?_ _)); refine blk_put (cs := #[.int .i64 ((rd_T63 ((rd_T50 l0 x16_1).f4) x92_3).f0), .int .i64 ((rd_T63 ((rd_T50 l0 x16_1).f4) x92_3).f1), .int .i64 ((rd_T63 ((rd_T50 l0 x16_1).f4) x92_3).f2), .int .i64 ((rd_T63 ((rd_T50 l0 x16_1).f4) x92_3).f3), .int .i64 ((rd_T63 ((rd_T50 l0 x16_1).f4) x92_3).f4.f0), .bool ((rd_T63 ((rd_T50 l0 x16_1).f4) x92_3).f4.f1), .slice A193_6 ((rd_T63 ((rd_T50 l0 x16_1).f4) x92_3).f4.f2).length c193_6, .slice none 0 0]) ?_ 7 _ rfl; (with_reducible repeat (first | refine blk_drewN ?_ _ | refine blk_drew ?_ | refine blk_alloc ?_ _)); refine blk_put (cs := #[.int .i64 ((rd_T63 ((rd_T50 l0 x16_1).f4) x92_3).f0), .int .i64 ((rd_T63 ((rd_T50 l0 x16_1).f4) x92_3).f1), .int .i64 ((rd_T63 ((rd_T50 l0 x16_1).f4) x92_3).f2), .int .i64 ((rd_T63 ((rd_T50 l0 x16_1).f4) x92_3).f3), .int .i64 ((rd_T63 ((rd_T50 l0 x16_1).f4) x92_3).f4.f0), .bool ((rd_T63 ((rd_T50 l0 x16_1).f4) x92_3).f4.f1), .slice none 0 0, .slice none 0 0]) ?_ 6 _ rfl; (with_reducible repeat (first | refine blk_drewN ?_ _ | refine blk_drew ?_ | refine blk_alloc ?_ _)); refine blk_put (cs := #[.int .i64 ((rd_T63 ((rd_T50 l0 x16_1).f4) x92_3).f0), .int .i64 ((rd_T63 ((rd_T50 l0 x16_1).f4) x92_3).f1), .int .i64 ((rd_T63 ((rd_T50 l0 x16_1).f4) x92_3).f2), .int .i64 ((rd_T63 ((rd_T50 l0 x16_1).f4) x92_3).f3), .int .i64 ((rd_T63 ((rd_T50 l0 x16_1).f4) x92_3).f4.f0), .bool false, .slice none 0 0, .slice none 0 0]) ?_ 5 _ rfl; (with_reducible repeat (first | refine blk_drewN ?_ _ | refine blk_drew ?_ | refine blk_alloc ?_ _)); refine blk_put (cs := #[.int .i64 ((rd_T63 ((rd_T50 l0 x16_1).f4) x92_3).f0), .int .i64 ((rd_T63 ((rd_T50 l0 x16_1).f4) x92_3).f1), .int .i64 ((rd_T63 ((rd_T50 l0 x16_1).f4) x92_3).f2), .int .i64 ((rd_T63 ((rd_T50 l0 x16_1).f4) x92_3).f3), .int .i64 0, .bool false, .slice none 0 0, .slice none 0 0]) ?_ 4 _ rfl; (with_reducible repeat (first | refine blk_drewN ?_ _ | refine blk_drew ?_ | refine blk_alloc ?_ _)); refine blk_put (cs := #[.int .i64 ((rd_T63 ((rd_T50 l0 x16_1).f4) x92_3).f0), .int .i64 ((rd_T63 ((rd_T50 l0 x16_1).f4) x92_3).f1), .int .i64 ((rd_T63 ((rd_T50 l0 x16_1).f4) x92_3).f2), .int .i64 0, .int .i64 0, .bool false, .slice none 0 0, .slice none 0 0]) ?_ 3 _ rfl; (with_reducible repeat (first | refine blk_drewN ?_ _ | refine blk_drew ?_ | refine blk_alloc ?_ _)); refine blk_put (cs := #[.int .i64 ((rd_T63 ((rd_T50 l0 x16_1).f4) x92_3).f0), .int .i64 ((rd_T63 ((rd_T50 l0 x16_1).f4) x92_3).f1), .int .i64 0, .int .i64 0, .int .i64 0, .bool false, .slice none 0 0, .slice none 0 0]) ?_ 2 _ rfl; (with_reducible repeat (first | refine blk_drewN ?_ _ | refine blk_drew ?_ | refine blk_alloc ?_ _)); refine blk_put (cs := #[.int .i64 ((rd_T63 ((rd_T50 l0 x16_1).f4) x92_3).f0), .int .i64 0, .int .i64 0, .int .i64 0, .int .i64 0, .bool false, .slice none 0 0, .slice none 0 0]) ?_ 1 _ rfl; (with_reducible repeat (first | refine blk_drewN ?_ _ | refine blk_drew ?_ | refine blk_alloc ?_ _)); refine blk_put (cs := #[.int .i64 0, .int .i64 0, .int .i64 0, .int .i64 0, .int .i64 0, .bool false, .slice none 0 0, .slice none 0 0]) ?_ 0 _ rfl; (with_reducible repeat (first | refine blk_drewN ?_ _ | refine blk_drew ?_ | refine blk_alloc ?_ _)); exact BK194.out) hb); have n1_ := Aside0.mk (below_step (bl HB) hb); have n2_ := Aside0.mk (hbox); have n3_ := (gz hg HB : Aside0 (w.heap.size ≤ gb197)); have n4_ := (gz hg HB : Aside0 (w.heap.size ≤ gb197)); have n5_ := Aside0.mk ((by rw [hg]; exact Nat.ne_of_lt (blk_lt (g := gb194) (o := .cells #[.int .i64 ((rd_T63 ((rd_T50 l0 x16_1).f4) x92_3).f0), .int .i64 ((rd_T63 ((rd_T50 l0 x16_1).f4) x92_3).f1), .int .i64 ((rd_T63 ((rd_T50 l0 x16_1).f4) x92_3).f2), .int .i64 ((rd_T63 ((rd_T50 l0 x16_1).f4) x92_3).f3), .int .i64 ((rd_T63 ((rd_T50 l0 x16_1).f4) x92_3).f4.f0), .bool ((rd_T63 ((rd_T50 l0 x16_1).f4) x92_3).f4.f1), .slice A193_6 ((rd_T63 ((rd_T50 l0 x16_1).f4) x92_3).f4.f2).length c193_6, .slice A193_7 ((rd_T63 ((rd_T50 l0 x16_1).f4) x92_3).f4.f3).length c193_7] 63 (0, 0)) (by (with_reducible repeat (first | refine blk_drewN ?_ _ | refine blk_drew ?_ | refine blk_alloc ?_ _)); refine blk_put (cs := #[.int .i64 ((rd_T63 ((rd_T50 l0 x16_1).f4) x92_3).f0), .int .i64 ((rd_T63 ((rd_T50 l0 x16_1).f4) x92_3).f1), .int .i64 ((rd_T63 ((rd_T50 l0 x16_1).f4) x92_3).f2), .int .i64 ((rd_T63 ((rd_T50 l0 x16_1).f4) x92_3).f3), .int .i64 ((rd_T63 ((rd_T50 l0 x16_1).f4) x92_3).f4.f0), .bool ((rd_T63 ((rd_T50 l0 x16_1).f4) x92_3).f4.f1), .slice A193_6 ((rd_T63 ((rd_T50 l0 x16_1).f4) x92_3).f4.f2).length c193_6, .slice none 0 0]) ?_ 7 _ rfl; (with_reducible repeat (first | refine blk_drewN ?_ _ | refine blk_drew ?_ | refine blk_alloc ?_ _)); refine blk_put (cs := #[.int .i64 ((rd_T63 ((rd_T50 l0 x16_1).f4) x92_3).f0), .int .i64 ((rd_T63 ((rd_T50 l0 x16_1).f4) x92_3).f1), .int .i64 ((rd_T63 ((rd_T50 l0 x16_1).f4) x92_3).f2), .int .i64 ((rd_T63 ((rd_T50 l0 x16_1).f4) x92_3).f3), .int .i64 ((rd_T63 ((rd_T50 l0 x16_1).f4) x92_3).f4.f0), .bool ((rd_T63 ((rd_T50 l0 x16_1).f4) x92_3).f4.f1), .slice none 0 0, .slice none 0 0]) ?_ 6 _ rfl; (with_reducible repeat (first | refine blk_drewN ?_ _ | refine blk_drew ?_ | refine blk_alloc ?_ _)); refine blk_put (cs := #[.int .i64 ((rd_T63 ((rd_T50 l0 x16_1).f4) x92_3).f0), .int .i64 ((rd_T63 ((rd_T50 l0 x16_1).f4) x92_3).f1), .int .i64 ((rd_T63 ((rd_T50 l0 x16_1).f4) x92_3).f2), .int .i64 ((rd_T63 ((rd_T50 l0 x16_1).f4) x92_3).f3), .int .i64 ((rd_T63 ((rd_T50 l0 x16_1).f4) x92_3).f4.f0), .bool false, .slice none 0 0, .slice none 0 0]) ?_ 5 _ rfl; (with_reducible repeat (first | refine blk_drewN ?_ _ | refine blk_drew ?_ | refine blk_alloc ?_ _)); refine blk_put (cs := #[.int .i64 ((rd_T63 ((rd_T50 l0 x16_1).f4) x92_3).f0), .int .i64 ((rd_T63 ((rd_T50 l0 x16_1).f4) x92_3).f1), .int .i64 ((rd_T63 ((rd_T50 l0 x16_1).f4) x92_3).f2), .int .i64 ((rd_T63 ((rd_T50 l0 x16_1).f4) x92_3).f3), .int .i64 0, .bool false, .slice none 0 0, .slice none 0 0]) ?_ 4 _ rfl; (with_reducible repeat (first | refine blk_drewN ?_ _ | refine blk_drew ?_ | refine blk_alloc ?_ _)); refine blk_put (cs := #[.int .i64 ((rd_T63 ((rd_T50 l0 x16_1).f4) x92_3).f0), .int .i64 ((rd_T63 ((rd_T50 l0 x16_1).f4) x92_3).f1), .int .i64 ((rd_T63 ((rd_T50 l0 x16_1).f4) x92_3).f2), .int .i64 0, .int .i64 0, .bool false, .slice none 0 0, .slice none 0 0]) ?_ 3 _ rfl; (with_reducible repeat (first | refine blk_drewN ?_ _ | refine blk_drew ?_ | refine blk_alloc ?_ _)); refine blk_put (cs := #[.int .i64 ((rd_T63 ((rd_T50 l0 x16_1).f4) x92_3).f0), .int .i64 ((rd_T63 ((rd_T50 l0 x16_1).f4) x92_3).f1), .int .i64 0, .int .i64 0, .int .i64 0, .bool false, .slice none 0 0, .slice none 0 0]) ?_ 2 _ rfl; (with_reducible repeat (first | refine blk_drewN ?_ _ | refine blk_drew ?_ | refine blk_alloc ?_ _)); refine blk_put (cs := #[.int .i64 ((rd_T63 ((rd_T50 l0 x16_1).f4) x92_3).f0), .int .i64 0, .int .i64 0, .int .i64 0, .int .i64 0, .bool false, .slice none 0 0, .slice none 0 0]) ?_ 1 _ rfl; (with_reducible repeat (first | refine blk_drewN ?_ _ | refine blk_drew ?_ | refine blk_alloc ?_ _)); refine blk_put (cs := #[.int .i64 0, .int .i64 0, .int .i64 0, .int .i64 0, .int .i64 0, .bool false, .slice none 0 0, .slice none 0 0]) ?_ 0 _ rfl; (with_reducible repeat (first | refine blk_drewN ?_ _ | refine blk_drew ?_ | refine blk_alloc ?_ _)); exact BK194.out)) : gb194 ≠ gb197)); have n6_ := Aside0.mk ((by rw [hg]; exact Nat.ne_of_gt (blk_lt (g := gb194) (o := .cells #[.int .i64 ((rd_T63 ((rd_T50 l0 x16_1).f4) x92_3).f0), .int .i64 ((rd_T63 ((rd_T50 l0 x16_1).f4) x92_3).f1), .int .i64 ((rd_T63 ((rd_T50 l0 x16_1).f4) x92_3).f2), .int .i64 ((rd_T63 ((rd_T50 l0 x16_1).f4) x92_3).f3), .int .i64 ((rd_T63 ((rd_T50 l0 x16_1).f4) x92_3).f4.f0), .bool ((rd_T63 ((rd_T50 l0 x16_1).f4) x92_3).f4.f1), .slice A193_6 ((rd_T63 ((rd_T50 l0 x16_1).f4) x92_3).f4.f2).length c193_6, .slice A193_7 ((rd_T63 ((rd_T50 l0 x16_1).f4) x92_3).f4.f3).length c193_7] 63 (0, 0)) (by (with_reducible repeat (first | refine blk_drewN ?_ _ | refine blk_drew ?_ | refine blk_alloc ?_ _)); refine blk_put (cs := #[.int .i64 ((rd_T63 ((rd_T50 l0 x16_1).f4) x92_3).f0), .int .i64 ((rd_T63 ((rd_T50 l0 x16_1).f4) x92_3).f1), .int .i64 ((rd_T63 ((rd_T50 l0 x16_1).f4) x92_3).f2), .int .i64 ((rd_T63 ((rd_T50 l0 x16_1).f4) x92_3).f3), .int .i64 ((rd_T63 ((rd_T50 l0 x16_1).f4) x92_3).f4.f0), .bool ((rd_T63 ((rd_T50 l0 x16_1).f4) x92_3).f4.f1), .slice A193_6 ((rd_T63 ((rd_T50 l0 x16_1).f4) x92_3).f4.f2).length c193_6, .slice none 0 0]) ?_ 7 _ rfl; (with_reducible repeat (first | refine blk_drewN ?_ _ | refine blk_drew ?_ | refine blk_alloc ?_ _)); refine blk_put (cs := #[.int .i64 ((rd_T63 ((rd_T50 l0 x16_1).f4) x92_3).f0), .int .i64 ((rd_T63 ((rd_T50 l0 x16_1).f4) x92_3).f1), .int .i64 ((rd_T63 ((rd_T50 l0 x16_1).f4) x92_3).f2), .int .i64 ((rd_T63 ((rd_T50 l0 x16_1).f4) x92_3).f3), .int .i64 ((rd_T63 ((rd_T50 l0 x16_1).f4) x92_3).f4.f0), .bool ((rd_T63 ((rd_T50 l0 x16_1).f4) x92_3).f4.f1), .slice none 0 0, .slice none 0 0]) ?_ 6 _ rfl; (with_reducible repeat (first | refine blk_drewN ?_ _ | refine blk_drew ?_ | refine blk_alloc ?_ _)); refine blk_put (cs := #[.int .i64 ((rd_T63 ((rd_T50 l0 x16_1).f4) x92_3).f0), .int .i64 ((rd_T63 ((rd_T50 l0 x16_1).f4) x92_3).f1), .int .i64 ((rd_T63 ((rd_T50 l0 x16_1).f4) x92_3).f2), .int .i64 ((rd_T63 ((rd_T50 l0 x16_1).f4) x92_3).f3), .int .i64 ((rd_T63 ((rd_T50 l0 x16_1).f4) x92_3).f4.f0), .bool false, .slice none 0 0, .slice none 0 0]) ?_ 5 _ rfl; (with_reducible repeat (first | refine blk_drewN ?_ _ | refine blk_drew ?_ | refine blk_alloc ?_ _)); refine blk_put (cs := #[.int .i64 ((rd_T63 ((rd_T50 l0 x16_1).f4) x92_3).f0), .int .i64 ((rd_T63 ((rd_T50 l0 x16_1).f4) x92_3).f1), .int .i64 ((rd_T63 ((rd_T50 l0 x16_1).f4) x92_3).f2), .int .i64 ((rd_T63 ((rd_T50 l0 x16_1).f4) x92_3).f3), .int .i64 0, .bool false, .slice none 0 0, .slice none 0 0]) ?_ 4 _ rfl; (with_reducible repeat (first | refine blk_drewN ?_ _ | refine blk_drew ?_ | refine blk_alloc ?_ _)); refine blk_put (cs := #[.int .i64 ((rd_T63 ((rd_T50 l0 x16_1).f4) x92_3).f0), .int .i64 ((rd_T63 ((rd_T50 l0 x16_1).f4) x92_3).f1), .int .i64 ((rd_T63 ((rd_T50 l0 x16_1).f4) x92_3).f2), .int .i64 0, .int .i64 0, .bool false, .slice none 0 0, .slice none 0 0]) ?_ 3 _ rfl; (with_reducible repeat (first | refine blk_drewN ?_ _ | refine blk_drew ?_ | refine blk_alloc ?_ _)); refine blk_put (cs := #[.int .i64 ((rd_T63 ((rd_T50 l0 x16_1).f4) x92_3).f0), .int .i64 ((rd_T63 ((rd_T50 l0 x16_1).f4) x92_3).f1), .int .i64 0, .int .i64 0, .int .i64 0, .bool false, .slice none 0 0, .slice none 0 0]) ?_ 2 _ rfl; (with_reducible repeat (first | refine blk_drewN ?_ _ | refine blk_drew ?_ | refine blk_alloc ?_ _)); refine blk_put (cs := #[.int .i64 ((rd_T63 ((rd_T50 l0 x16_1).f4) x92_3).f0), .int .i64 0, .int .i64 0, .int .i64 0, .int .i64 0, .bool false, .slice none 0 0, .slice none 0 0]) ?_ 1 _ rfl; (with_reducible repeat (first | refine blk_drewN ?_ _ | refine blk_drew ?_ | refine blk_alloc ?_ _)); refine blk_put (cs := #[.int .i64 0, .int .i64 0, .int .i64 0, .int .i64 0, .int .i64 0, .bool false, .slice none 0 0, .slice none 0 0]) ?_ 0 _ rfl; (with_reducible repeat (first | refine blk_drewN ?_ _ | refine blk_drew ?_ | refine blk_alloc ?_ _)); exact BK194.out)) : gb197 ≠ gb194)); clear BK194; clear HB; have BK194 := n0_; have HB := n1_; have BK197 := n2_; have GW197 := n3_; have GE197 := n4_; have NB194_197 := n5_; have NB197_194 := n6_; clear n0_ n1_ n2_ n3_ n4_ n5_ n6_; clear hb hbox hg; have hnb69 := NB197_194.out; have hnc69 := NB194_197.out; have hczq2_0 := blk_cell BK197.out 0; have hczq2_1 := blk_cell BK197.out 1; have hczq2_2 := blk_cell BK197.out 2; have hczq2_3 := blk_cell BK197.out 3; have hczq2_4 := blk_cell BK197.out 4; have hczq2_5 := blk_cell BK197.out 5; have hczq2_6 := blk_cell BK197.out 6; have hczq2_7 := blk_cell BK197.out 7; have hfzq2_0 := blk_frozen BK197.out 0; have hfzq2_1 := blk_frozen BK197.out 1; have hfzq2_2 := blk_frozen BK197.out 2; have hfzq2_3 := blk_frozen BK197.out 3; have hfzq2_4 := blk_frozen BK197.out 4; have hfzq2_5 := blk_frozen BK197.out 5; have hfzq2_6 := blk_frozen BK197.out 6; have hfzq2_7 := blk_frozen BK197.out 7; have hczq3_0 := blk_cell BK194.out 0; have hczq3_1 := blk_cell BK194.out 1; have hczq3_2 := blk_cell BK194.out 2; have hczq3_3 := blk_cell BK194.out 3; have hczq3_4 := blk_cell BK194.out 4; have hczq3_5 := blk_cell BK194.out 5; have hczq3_6 := blk_cell BK194.out 6; have hczq3_7 := blk_cell BK194.out 7; have hfzq3_0 := blk_frozen BK194.out 0; have hfzq3_1 := blk_frozen BK194.out 1; have hfzq3_2 := blk_frozen BK194.out 2; have hfzq3_3 := blk_frozen BK194.out 3; have hfzq3_4 := blk_frozen BK194.out 4; have hfzq3_5 := blk_frozen BK194.out 5; have hfzq3_6 := blk_frozen BK194.out 6; have hfzq3_7 := blk_frozen BK194.out 7) | ((with_reducible refine gate_dst (N := 8) rfl ?_); (try (refine gate_guard (by rfl) ?_; dsimp only)); refine bx (N := 8) (cs := #[.int .i64 0, .int .i64 0, .int .i64 0, .int .i64 0, .int .i64 0, .bool false, .slice none 0 0, .slice none 0 0]) (t := 63) ?_; intro gb197 hg wq2 hbox hb; have n0_ := Aside0.mk (blk_below (g := gb194) (o := .cells #[.int .i64 ((rd_T63 ((rd_T50 l0 x16_1).f4) x92_3).f0), .int .i64 ((rd_T63 ((rd_T50 l0 x16_1).f4) x92_3).f1), .int .i64 ((rd_T63 ((rd_T50 l0 x16_1).f4) x92_3).f2), .int .i64 ((rd_T63 ((rd_T50 l0 x16_1).f4) x92_3).f3), .int .i64 ((rd_T63 ((rd_T50 l0 x16_1).f4) x92_3).f4.f0), .bool ((rd_T63 ((rd_T50 l0 x16_1).f4) x92_3).f4.f1), .slice A193_6 ((rd_T63 ((rd_T50 l0 x16_1).f4) x92_3).f4.f2).length c193_6, .slice A193_7 ((rd_T63 ((rd_T50 l0 x16_1).f4) x92_3).f4.f3).length c193_7] 63 (0, 0)) (by (with_reducible repeat (first | refine blk_drewN ?_ _ | refine blk_drew ?_ | refine blk_alloc ?_ _)); refine blk_put (cs := #[.int .i64 ((rd_T63 ((rd_T50 l0 x16_1).f4) x92_3).f0), .int .i64 ((rd_T63 ((rd_T50 l0 x16_1).f4) x92_3).f1), .int .i64 ((rd_T63 ((rd_T50 l0 x16_1).f4) x92_3).f2), .int .i64 ((rd_T63 ((rd_T50 l0 x16_1).f4) x92_3).f3), .int .i64 ((rd_T63 ((rd_T50 l0 x16_1).f4) x92_3).f4.f0), .bool ((rd_T63 ((rd_T50 l0 x16_1).f4) x92_3).f4.f1), .slice A193_6 ((rd_T63 ((rd_T50 l0 x16_1).f4) x92_3).f4.f2).length c193_6, .slice none 0 0]) ?_ 7 _ rfl; (with_reducible repeat (first | refine blk_drewN ?_ _ | refine blk_drew ?_ | refine blk_alloc ?_ _)); refine blk_put (cs := #[.int .i64 ((rd_T63 ((rd_T50 l0 x16_1).f4) x92_3).f0), .int .i64 ((rd_T63 ((rd_T50 l0 x16_1).f4) x92_3).f1), .int .i64 ((rd_T63 ((rd_T50 l0 x16_1).f4) x92_3).f2), .int .i64 ((rd_T63 ((rd_T50 l0 x16_1).f4) x92_3).f3), .int .i64 ((rd_T63 ((rd_T50 l0 x16_1).f4) x92_3).f4.f0), .bool ((rd_T63 ((rd_T50 l0 x16_1).f4) x92_3).f4.f1), .slice none 0 0, .slice none 0 0]) ?_ 6 _ rfl; (with_reducible repeat (first | refine blk_drewN ?_ _ | refine blk_drew ?_ | refine blk_alloc ?_ _)); refine blk_put (cs := #[.int .i64 ((rd_T63 ((rd_T50 l0 x16_1).f4) x92_3).f0), .int .i64 ((rd_T63 ((rd_T50 l0 x16_1).f4) x92_3).f1), .int .i64 ((rd_T63 ((rd_T50 l0 x16_1).f4) x92_3).f2), .int .i64 ((rd_T63 ((rd_T50 l0 x16_1).f4) x92_3).f3), .int .i64 ((rd_T63 ((rd_T50 l0 x16_1).f4) x92_3).f4.f0), .bool false, .slice none 0 0, .slice none 0 0]) ?_ 5 _ rfl; (with_reducible repeat (first | refine blk_drewN ?_ _ | refine blk_drew ?_ | refine blk_alloc ?_ _)); refine blk_put (cs := #[.int .i64 ((rd_T63 ((rd_T50 l0 x16_1).f4) x92_3).f0), .int .i64 ((rd_T63 ((rd_T50 l0 x16_1).f4) x92_3).f1), .int .i64 ((rd_T63 ((rd_T50 l0 x16_1).f4) x92_3).f2), .int .i64 ((rd_T63 ((rd_T50 l0 x16_1).f4) x92_3).f3), .int .i64 0, .bool false, .slice none 0 0, .slice none 0 0]) ?_ 4 _ rfl; (with_reducible repeat (first | refine blk_drewN ?_ _ | refine blk_drew ?_ | refine blk_alloc ?_ _)); refine blk_put (cs := #[.int .i64 ((rd_T63 ((rd_T50 l0 x16_1).f4) x92_3).f0), .int .i64 ((rd_T63 ((rd_T50 l0 x16_1).f4) x92_3).f1), .int .i64 ((rd_T63 ((rd_T50 l0 x16_1).f4) x92_3).f2), .int .i64 0, .int .i64 0, .bool false, .slice none 0 0, .slice none 0 0]) ?_ 3 _ rfl; (with_reducible repeat (first | refine blk_drewN ?_ _ | refine blk_drew ?_ | refine blk_alloc ?_ _)); refine blk_put (cs := #[.int .i64 ((rd_T63 ((rd_T50 l0 x16_1).f4) x92_3).f0), .int .i64 ((rd_T63 ((rd_T50 l0 x16_1).f4) x92_3).f1), .int .i64 0, .int .i64 0, .int .i64 0, .bool false, .slice none 0 0, .slice none 0 0]) ?_ 2 _ rfl; (with_reducible repeat (first | refine blk_drewN ?_ _ | refine blk_drew ?_ | refine blk_alloc ?_ _)); refine blk_put (cs := #[.int .i64 ((rd_T63 ((rd_T50 l0 x16_1).f4) x92_3).f0), .int .i64 0, .int .i64 0, .int .i64 0, .int .i64 0, .bool false, .slice none 0 0, .slice none 0 0]) ?_ 1 _ rfl; (with_reducible repeat (first | refine blk_drewN ?_ _ | refine blk_drew ?_ | refine blk_alloc ?_ _)); refine blk_put (cs := #[.int .i64 0, .int .i64 0, .int .i64 0, .int .i64 0, .int .i64 0, .bool false, .slice none 0 0, .slice none 0 0]) ?_ 0 _ rfl; (with_reducible repeat (first | refine blk_drewN ?_ _ | refine blk_drew ?_ | refine blk_alloc ?_ _)); exact BK194.out) hb); have n1_ := Aside0.mk (below_step (bl HB) hb); have n2_ := Aside0.mk (hbox); have n3_ := (gz hg HB : Aside0 (w.heap.size ≤ gb197)); have n4_ := (gz hg HB : Aside0 (w.heap.size ≤ gb197)); have n5_ := Aside0.mk ((by rw [hg]; exact Nat.ne_of_lt (blk_lt (g := gb194) (o := .cells #[.int .i64 ((rd_T63 ((rd_T50 l0 x16_1).f4) x92_3).f0), .int .i64 ((rd_T63 ((rd_T50 l0 x16_1).f4) x92_3).f1), .int .i64 ((rd_T63 ((rd_T50 l0 x16_1).f4) x92_3).f2), .int .i64 ((rd_T63 ((rd_T50 l0 x16_1).f4) x92_3).f3), .int .i64 ((rd_T63 ((rd_T50 l0 x16_1).f4) x92_3).f4.f0), .bool ((rd_T63 ((rd_T50 l0 x16_1).f4) x92_3).f4.f1), .slice A193_6 ((rd_T63 ((rd_T50 l0 x16_1).f4) x92_3).f4.f2).length c193_6, .slice A193_7 ((rd_T63 ((rd_T50 l0 x16_1).f4) x92_3).f4.f3).length c193_7] 63 (0, 0)) (by (with_reducible repeat (first | refine blk_drewN ?_ _ | refine blk_drew ?_ | refine blk_alloc ?_ _)); refine blk_put (cs := #[.int .i64 ((rd_T63 ((rd_T50 l0 x16_1).f4) x92_3).f0), .int .i64 ((rd_T63 ((rd_T50 l0 x16_1).f4) x92_3).f1), .int .i64 ((rd_T63 ((rd_T50 l0 x16_1).f4) x92_3).f2), .int .i64 ((rd_T63 ((rd_T50 l0 x16_1).f4) x92_3).f3), .int .i64 ((rd_T63 ((rd_T50 l0 x16_1).f4) x92_3).f4.f0), .bool ((rd_T63 ((rd_T50 l0 x16_1).f4) x92_3).f4.f1), .slice A193_6 ((rd_T63 ((rd_T50 l0 x16_1).f4) x92_3).f4.f2).length c193_6, .slice none 0 0]) ?_ 7 _ rfl; (with_reducible repeat (first | refine blk_drewN ?_ _ | refine blk_drew ?_ | refine blk_alloc ?_ _)); refine blk_put (cs := #[.int .i64 ((rd_T63 ((rd_T50 l0 x16_1).f4) x92_3).f0), .int .i64 ((rd_T63 ((rd_T50 l0 x16_1).f4) x92_3).f1), .int .i64 ((rd_T63 ((rd_T50 l0 x16_1).f4) x92_3).f2), .int .i64 ((rd_T63 ((rd_T50 l0 x16_1).f4) x92_3).f3), .int .i64 ((rd_T63 ((rd_T50 l0 x16_1).f4) x92_3).f4.f0), .bool ((rd_T63 ((rd_T50 l0 x16_1).f4) x92_3).f4.f1), .slice none 0 0, .slice none 0 0]) ?_ 6 _ rfl; (with_reducible repeat (first | refine blk_drewN ?_ _ | refine blk_drew ?_ | refine blk_alloc ?_ _)); refine blk_put (cs := #[.int .i64 ((rd_T63 ((rd_T50 l0 x16_1).f4) x92_3).f0), .int .i64 ((rd_T63 ((rd_T50 l0 x16_1).f4) x92_3).f1), .int .i64 ((rd_T63 ((rd_T50 l0 x16_1).f4) x92_3).f2), .int .i64 ((rd_T63 ((rd_T50 l0 x16_1).f4) x92_3).f3), .int .i64 ((rd_T63 ((rd_T50 l0 x16_1).f4) x92_3).f4.f0), .bool false, .slice none 0 0, .slice none 0 0]) ?_ 5 _ rfl; (with_reducible repeat (first | refine blk_drewN ?_ _ | refine blk_drew ?_ | refine blk_alloc ?_ _)); refine blk_put (cs := #[.int .i64 ((rd_T63 ((rd_T50 l0 x16_1).f4) x92_3).f0), .int .i64 ((rd_T63 ((rd_T50 l0 x16_1).f4) x92_3).f1), .int .i64 ((rd_T63 ((rd_T50 l0 x16_1).f4) x92_3).f2), .int .i64 ((rd_T63 ((rd_T50 l0 x16_1).f4) x92_3).f3), .int .i64 0, .bool false, .slice none 0 0, .slice none 0 0]) ?_ 4 _ rfl; (with_reducible repeat (first | refine blk_drewN ?_ _ | refine blk_drew ?_ | refine blk_alloc ?_ _)); refine blk_put (cs := #[.int .i64 ((rd_T63 ((rd_T50 l0 x16_1).f4) x92_3).f0), .int .i64 ((rd_T63 ((rd_T50 l0 x16_1).f4) x92_3).f1), .int .i64 ((rd_T63 ((rd_T50 l0 x16_1).f4) x92_3).f2), .int .i64 0, .int .i64 0, .bool false, .slice none 0 0, .slice none 0 0]) ?_ 3 _ rfl; (with_reducible repeat (first | refine blk_drewN ?_ _ | refine blk_drew ?_ | refine blk_alloc ?_ _)); refine blk_put (cs := #[.int .i64 ((rd_T63 ((rd_T50 l0 x16_1).f4) x92_3).f0), .int .i64 ((rd_T63 ((rd_T50 l0 x16_1).f4) x92_3).f1), .int .i64 0, .int .i64 0, .int .i64 0, .bool false, .slice none 0 0, .slice none 0 0]) ?_ 2 _ rfl; (with_reducible repeat (first | refine blk_drewN ?_ _ | refine blk_drew ?_ | refine blk_alloc ?_ _)); refine blk_put (cs := #[.int .i64 ((rd_T63 ((rd_T50 l0 x16_1).f4) x92_3).f0), .int .i64 0, .int .i64 0, .int .i64 0, .int .i64 0, .bool false, .slice none 0 0, .slice none 0 0]) ?_ 1 _ rfl; (with_reducible repeat (first | refine blk_drewN ?_ _ | refine blk_drew ?_ | refine blk_alloc ?_ _)); refine blk_put (cs := #[.int .i64 0, .int .i64 0, .int .i64 0, .int .i64 0, .int .i64 0, .bool false, .slice none 0 0, .slice none 0 0]) ?_ 0 _ rfl; (with_reducible repeat (first | refine blk_drewN ?_ _ | refine blk_drew ?_ | refine blk_alloc ?_ _)); exact BK194.out)) : gb194 ≠ gb197)); have n6_ := Aside0.mk ((by rw [hg]; exact Nat.ne_of_gt (blk_lt (g := gb194) (o := .cells #[.int .i64 ((rd_T63 ((rd_T50 l0 x16_1).f4) x92_3).f0), .int .i64 ((rd_T63 ((rd_T50 l0 x16_1).f4) x92_3).f1), .int .i64 ((rd_T63 ((rd_T50 l0 x16_1).f4) x92_3).f2), .int .i64 ((rd_T63 ((rd_T50 l0 x16_1).f4) x92_3).f3), .int .i64 ((rd_T63 ((rd_T50 l0 x16_1).f4) x92_3).f4.f0), .bool ((rd_T63 ((rd_T50 l0 x16_1).f4) x92_3).f4.f1), .slice A193_6 ((rd_T63 ((rd_T50 l0 x16_1).f4) x92_3).f4.f2).length c193_6, .slice A193_7 ((rd_T63 ((rd_T50 l0 x16_1).f4) x92_3).f4.f3).length c193_7] 63 (0, 0)) (by (with_reducible repeat (first | refine blk_drewN ?_ _ | refine blk_drew ?_ | refine blk_alloc ?_ _)); refine blk_put (cs := #[.int .i64 ((rd_T63 ((rd_T50 l0 x16_1).f4) x92_3).f0), .int .i64 ((rd_T63 ((rd_T50 l0 x16_1).f4) x92_3).f1), .int .i64 ((rd_T63 ((rd_T50 l0 x16_1).f4) x92_3).f2), .int .i64 ((rd_T63 ((rd_T50 l0 x16_1).f4) x92_3).f3), .int .i64 ((rd_T63 ((rd_T50 l0 x16_1).f4) x92_3).f4.f0), .bool ((rd_T63 ((rd_T50 l0 x16_1).f4) x92_3).f4.f1), .slice A193_6 ((rd_T63 ((rd_T50 l0 x16_1).f4) x92_3).f4.f2).length c193_6, .slice none 0 0]) ?_ 7 _ rfl; (with_reducible repeat (first | refine blk_drewN ?_ _ | refine blk_drew ?_ | refine blk_alloc ?_ _)); refine blk_put (cs := #[.int .i64 ((rd_T63 ((rd_T50 l0 x16_1).f4) x92_3).f0), .int .i64 ((rd_T63 ((rd_T50 l0 x16_1).f4) x92_3).f1), .int .i64 ((rd_T63 ((rd_T50 l0 x16_1).f4) x92_3).f2), .int .i64 ((rd_T63 ((rd_T50 l0 x16_1).f4) x92_3).f3), .int .i64 ((rd_T63 ((rd_T50 l0 x16_1).f4) x92_3).f4.f0), .bool ((rd_T63 ((rd_T50 l0 x16_1).f4) x92_3).f4.f1), .slice none 0 0, .slice none 0 0]) ?_ 6 _ rfl; (with_reducible repeat (first | refine blk_drewN ?_ _ | refine blk_drew ?_ | refine blk_alloc ?_ _)); refine blk_put (cs := #[.int .i64 ((rd_T63 ((rd_T50 l0 x16_1).f4) x92_3).f0), .int .i64 ((rd_T63 ((rd_T50 l0 x16_1).f4) x92_3).f1), .int .i64 ((rd_T63 ((rd_T50 l0 x16_1).f4) x92_3).f2), .int .i64 ((rd_T63 ((rd_T50 l0 x16_1).f4) x92_3).f3), .int .i64 ((rd_T63 ((rd_T50 l0 x16_1).f4) x92_3).f4.f0), .bool false, .slice none 0 0, .slice none 0 0]) ?_ 5 _ rfl; (with_reducible repeat (first | refine blk_drewN ?_ _ | refine blk_drew ?_ | refine blk_alloc ?_ _)); refine blk_put (cs := #[.int .i64 ((rd_T63 ((rd_T50 l0 x16_1).f4) x92_3).f0), .int .i64 ((rd_T63 ((rd_T50 l0 x16_1).f4) x92_3).f1), .int .i64 ((rd_T63 ((rd_T50 l0 x16_1).f4) x92_3).f2), .int .i64 ((rd_T63 ((rd_T50 l0 x16_1).f4) x92_3).f3), .int .i64 0, .bool false, .slice none 0 0, .slice none 0 0]) ?_ 4 _ rfl; (with_reducible repeat (first | refine blk_drewN ?_ _ | refine blk_drew ?_ | refine blk_alloc ?_ _)); refine blk_put (cs := #[.int .i64 ((rd_T63 ((rd_T50 l0 x16_1).f4) x92_3).f0), .int .i64 ((rd_T63 ((rd_T50 l0 x16_1).f4) x92_3).f1), .int .i64 ((rd_T63 ((rd_T50 l0 x16_1).f4) x92_3).f2), .int .i64 0, .int .i64 0, .bool false, .slice none 0 0, .slice none 0 0]) ?_ 3 _ rfl; (with_reducible repeat (first | refine blk_drewN ?_ _ | refine blk_drew ?_ | refine blk_alloc ?_ _)); refine blk_put (cs := #[.int .i64 ((rd_T63 ((rd_T50 l0 x16_1).f4) x92_3).f0), .int .i64 ((rd_T63 ((rd_T50 l0 x16_1).f4) x92_3).f1), .int .i64 0, .int .i64 0, .int .i64 0, .bool false, .slice none 0 0, .slice none 0 0]) ?_ 2 _ rfl; (with_reducible repeat (first | refine blk_drewN ?_ _ | refine blk_drew ?_ | refine blk_alloc ?_ _)); refine blk_put (cs := #[.int .i64 ((rd_T63 ((rd_T50 l0 x16_1).f4) x92_3).f0), .int .i64 0, .int .i64 0, .int .i64 0, .int .i64 0, .bool false, .slice none 0 0, .slice none 0 0]) ?_ 1 _ rfl; (with_reducible repeat (first | refine blk_drewN ?_ _ | refine blk_drew ?_ | refine blk_alloc ?_ _)); refine blk_put (cs := #[.int .i64 0, .int .i64 0, .int .i64 0, .int .i64 0, .int .i64 0, .bool false, .slice none 0 0, .slice none 0 0]) ?_ 0 _ rfl; (with_reducible repeat (first | refine blk_drewN ?_ _ | refine blk_drew ?_ | refine blk_alloc ?_ _)); exact BK194.out)) : gb197 ≠ gb194)); clear BK194; clear HB; have BK194 := n0_; have HB := n1_; have BK197 := n2_; have GW197 := n3_; have GE197 := n4_; have NB194_197 := n5_; have NB197_194 := n6_; clear n0_ n1_ n2_ n3_ n4_ n5_ n6_; clear hb hbox hg; have hnb75 := NB197_194.out; have hnc75 := NB194_197.out; have hczq2_0 := blk_cell BK197.out 0; have hczq2_1 := blk_cell BK197.out 1; have hczq2_2 := blk_cell BK197.out 2; have hczq2_3 := blk_cell BK197.out 3; have hczq2_4 := blk_cell BK197.out 4; have hczq2_5 := blk_cell BK197.out 5; have hczq2_6 := blk_cell BK197.out 6; have hczq2_7 := blk_cell BK197.out 7; have hfzq2_0 := blk_frozen BK197.out 0; have hfzq2_1 := blk_frozen BK197.out 1; have hfzq2_2 := blk_frozen BK197.out 2; have hfzq2_3 := blk_frozen BK197.out 3; have hfzq2_4 := blk_frozen BK197.out 4; have hfzq2_5 := blk_frozen BK197.out 5; have hfzq2_6 := blk_frozen BK197.out 6; have hfzq2_7 := blk_frozen BK197.out 7; have hczq3_0 := blk_cell BK194.out 0; have hczq3_1 := blk_cell BK194.out 1; have hczq3_2 := blk_cell BK194.out 2; have hczq3_3 := blk_cell BK194.out 3; have hczq3_4 := blk_cell BK194.out 4; have hczq3_5 := blk_cell BK194.out 5; have hczq3_6 := blk_cell BK194.out 6; have hczq3_7 := blk_cell BK194.out 7; have hfzq3_0 := blk_frozen BK194.out 0; have hfzq3_1 := blk_frozen BK194.out 1; have hfzq3_2 := blk_frozen BK194.out 2; have hfzq3_3 := blk_frozen BK194.out 3; have hfzq3_4 := blk_frozen BK194.out 4; have hfzq3_5 := blk_frozen BK194.out 5; have hfzq3_6 := blk_frozen BK194.out 6; have hfzq3_7 := blk_frozen BK194.out 7)))
            ·go_roundg k3
             case measure => have := HK1.out; have := HJ4.out; have := HK3.out; omega
             case rel => exact ⟨(wrap64 (x92_3 + 1)), rs, H', ⟨by have := HK1.out; have := HJ4.out; have := HK3.out; omega⟩, ⟨bl HB⟩⟩
            ·go_ret
             exact ⟨re, bl HB⟩
            ·go_ret
             exact ⟨re, bl HB⟩
            ·go_ret
             exact ⟨re, bl HB⟩
            ·go_ret
             exact ⟨re, bl HB⟩
            ·go_ret
             exact ⟨re, bl HB⟩
         ·rw [if_neg c27] at H
          exact absurd H (by simp)
        ·rw [if_neg c26] at H
         exact absurd H (by simp)
    ·rw [if_neg c4] at H
     have c4b0 : decide (x16_1 < (l0.length : Int)) = false := decide_eq_false c4
     clear c4
     obtain rfl := Option.some.inj H
     go_wp2
     go_ret
     exact ⟨re, bl HB⟩
 ·rw [if_neg c3] at H
  have c3b0 : ((l0.length : Int) == (l1.length : Int)) = false := beq_eq_false_iff_ne.mpr c3
  have c3b1 : ((l0.length : Int) != (l1.length : Int)) = true := bne_iff_ne.mpr c3
  have c3b2 : (l0.length == l1.length) = false := by first | simpa using c3 | (simp at c3 ⊢; omega)
  obtain rfl := Option.some.inj H
  go_enter Tryz.func15, Tryz.ntmps15
  go_wp2
  go_ret
  exact ⟨re, bl HB⟩
end Go.Proofs.YtbkknoipgmlcmaaGreatDoor.P

