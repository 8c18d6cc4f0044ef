import Derived.Test.YtbkknoipgmlcmaaGreatDoorQSXZ
import Derived.Test.YtbkknoipgmlcmaaGreatDoorQSP0
namespace Go.Proofs.YtbkknoipgmlcmaaGreatDoor.P
open Go.RowKit Go.Proofs.YtbkknoipgmlcmaaGreatDoorW.PrintWords Go.Proofs.YtbkknoipgmlcmaaGreatDoorW.PrintLast Go.Proofs.YtbkknoipgmlcmaaGreatDoorW.PrintMore
open Go.Proofs.FX
attribute [local go_sem] cell_twice le_add_cast
attribute [local go_sem] max2_int min2_int max_two min_two max_three min_three max_four min_four
set_option linter.unusedVariables false
set_option linter.unusedSimpArgs false
def fluxionref08_CutRat.f (a0_0 : Int) (a0_1 : Bool) (l0_2 : List Int) (l0_3 : List Int) (a1 : Int) : Option (Int × Bool × List Int × List Int × Int) := (some (([] : List Int) : List Int)).bind fun y120 => (if 0 ≤ (mn (l0_2.length : Int) (mn 130 (mx 2 (wrap64 (Int.tdiv a1 2))))) then (if (mn (l0_2.length : Int) (mn 130 (mx 2 (wrap64 (Int.tdiv a1 2))))) ≤ (l0_2.length : Int) then (if y120.length + (l0_2.take ((mn (l0_2.length : Int) (mn 130 (mx 2 (wrap64 (Int.tdiv a1 2))))) : Int).toNat).length < 35184372088832 then ((some (y120 ++ (l0_2.take ((mn (l0_2.length : Int) (mn 130 (mx 2 (wrap64 (Int.tdiv a1 2))))) : Int).toNat) : List Int)).bind fun y124 => ((some (([] : List Int) : List Int)).bind fun y127 => (if 0 ≤ (mn (l0_3.length : Int) (mn 130 (mx 2 (wrap64 (Int.tdiv a1 2))))) then (if (mn (l0_3.length : Int) (mn 130 (mx 2 (wrap64 (Int.tdiv a1 2))))) ≤ (l0_3.length : Int) then (if y127.length + (l0_3.take ((mn (l0_3.length : Int) (mn 130 (mx 2 (wrap64 (Int.tdiv a1 2))))) : Int).toNat).length < 35184372088832 then ((some (y127 ++ (l0_3.take ((mn (l0_3.length : Int) (mn 130 (mx 2 (wrap64 (Int.tdiv a1 2))))) : Int).toNat) : List Int)).bind fun y131 => (some (a0_0, a0_1, y124, y131, wrap64 ((y124.length : Int) + (y131.length : Int))))) else (none)) else (none)) else (none)))) else (none)) else (none)) else (none))
def fluxionref08_CutRat.T2 : Bool × List (List Nat × List Nat) := (true, [([], []), ([0], [0]), ([], []), ([2], [2]), ([], []), ([], []), ([5], [5]), ([], []), ([7], [7]), ([8], [8]), ([], []), ([9, 10], [9, 10]), ([6, 11], [6, 11]), ([4, 12], [4, 12]), ([], []), ([], []), ([15], [15]), ([], []), ([17], [17]), ([18], [18]), ([], []), ([19, 20], [19, 20]), ([16, 21], [16, 21]), ([14, 22, 13], [14, 22]), ([1, 3, 13, 23], [1, 3, 13, 23]), ([], []), ([25, 24, 23, 0, 1, 2, 3, 4, 5, 6, 7, 8, 9, 10, 11, 12, 13, 14, 15, 16, 17, 18, 19, 20, 21, 22, 23, 24, 25], [24, 25])])
def fluxionref08_CutRat.B2 : List Nat := [0, 1, 0, 4, 0, 0, 32, 0, 128, 384, 0, 1920, 4064, 8176, 0, 0, 32768, 0, 131072, 393216, 0, 1966080, 4161536, 8388592, 16777215, 0, 67108863]
theorem fluxionref08_CutRat.tab2 : rtab .any (opsOf Tryz.f85 2) = fluxionref08_CutRat.T2 := by kernel_rfl
theorem fluxionref08_CutRat.bits2 : waitsOk fluxionref08_CutRat.T2.2 fluxionref08_CutRat.B2 = true := by kernel_rfl
def fluxionref08_CutRat.T3 : Bool × List (List Nat × List Nat) := (true, [([], []), ([], []), ([1], [1]), ([2], [2]), ([], []), ([4], [4]), ([5], [5]), ([3, 6], [3, 6]), ([0, 0], [0]), ([7, 8, 0, 1, 2, 3, 4, 5, 6, 7, 8], [7])])
def fluxionref08_CutRat.B3 : List Nat := [0, 0, 2, 6, 0, 16, 48, 126, 1, 511]
theorem fluxionref08_CutRat.tab3 : rtab .any (opsOf Tryz.f85 3) = fluxionref08_CutRat.T3 := by kernel_rfl
theorem fluxionref08_CutRat.bits3 : waitsOk fluxionref08_CutRat.T3.2 fluxionref08_CutRat.B3 = true := by kernel_rfl
set_option maxHeartbeats 8000000 in
set_option maxRecDepth 100000 in
theorem fluxionref08_CutRat.calls (a0_0 : Int) (a0_1 : Bool) (A0_2 : Option Addr) (c0_2 : Nat) (l0_2 : List Int) (A0_3 : Option Addr) (c0_3 : Nat) (l0_3 : List Int) (a1 : Int) (r1 : Int) (r2 : Bool) (r3 : List Int) (r4 : List Int) (r5 : Int) (w : World) (hr0_2 : Kd.C (Kd.int .u32) w A0_2 l0_2.length l0_2) (hc0_2 : l0_2.length ≤ c0_2) (hr0_3 : Kd.C (Kd.int .u32) w A0_3 l0_3.length l0_3) (hc0_3 : l0_3.length ≤ c0_3) (h : fluxionref08_CutRat.f a0_0 a0_1 l0_2 l0_3 a1 = some (r1, r2, r3, r4, r5)) :
  Calls Tryz.prog 85 #[.agg #[.int .i64 a0_0, .bool a0_1, .slice A0_2 l0_2.length c0_2, .slice A0_3 l0_3.length c0_3], .int .i64 a1] w fun e w' => ∃ v2_ v3_ : Value, e = .returned (.tuple #[.agg #[.int .i64 r1, .bool r2, v2_, v3_], .int .i64 r5]) ∧ Kd.R (Kd.int .u32) 145 w' w.heap.size (fun k_ => some k_ ≠ (v3_ : Value).ownBlock) v2_ r3 ∧ Kd.R (Kd.int .u32) 145 w' w.heap.size (fun k_ => some k_ ≠ (v2_ : Value).ownBlock) v3_ r4 ∧ Below w.heap.size w w' := by
 have hu61 := Tryz.underlying61
 have HR0_2 := Aside0.mk hr0_2
 have HC0_2 := Aside0.mk hc0_2
 clear hr0_2 hc0_2
 have HR0_3 := Aside0.mk hr0_3
 have HC0_3 := Aside0.mk hc0_3
 clear hr0_3 hc0_3
 have HB := Aside0.mk (Below.refl w.heap.size w)
 have H : ((some (([] : List Int) : List Int)).bind fun y120 => (if 0 ≤ (mn (l0_2.length : Int) (mn 130 (mx 2 (wrap64 (Int.tdiv a1 2))))) then (if (mn (l0_2.length : Int) (mn 130 (mx 2 (wrap64 (Int.tdiv a1 2))))) ≤ (l0_2.length : Int) then (if y120.length + (l0_2.take ((mn (l0_2.length : Int) (mn 130 (mx 2 (wrap64 (Int.tdiv a1 2))))) : Int).toNat).length < 35184372088832 then ((some (y120 ++ (l0_2.take ((mn (l0_2.length : Int) (mn 130 (mx 2 (wrap64 (Int.tdiv a1 2))))) : Int).toNat) : List Int)).bind fun y124 => ((some (([] : List Int) : List Int)).bind fun y127 => (if 0 ≤ (mn (l0_3.length : Int) (mn 130 (mx 2 (wrap64 (Int.tdiv a1 2))))) then (if (mn (l0_3.length : Int) (mn 130 (mx 2 (wrap64 (Int.tdiv a1 2))))) ≤ (l0_3.length : Int) then (if y127.length + (l0_3.take ((mn (l0_3.length : Int) (mn 130 (mx 2 (wrap64 (Int.tdiv a1 2))))) : Int).toNat).length < 35184372088832 then ((some (y127 ++ (l0_3.take ((mn (l0_3.length : Int) (mn 130 (mx 2 (wrap64 (Int.tdiv a1 2))))) : Int).toNat) : List Int)).bind fun y131 => (some (a0_0, a0_1, y124, y131, wrap64 ((y124.length : Int) + (y131.length : Int))))) else (none)) else (none)) else (none)))) else (none)) else (none)) else (none))) = some (r1, r2, r3, r4, r5) := h
 clear h
 obtain ⟨ji3, hji3⟩ : ∃ j_ : Int, (mx 2 (wrap64 (Int.tdiv a1 2))) = j_ := ⟨_, rfl⟩
 replace H : ((some (([] : List Int) : List Int)).bind fun y120 => (if 0 ≤ (mn (l0_2.length : Int) (mn 130 (ji3))) then (if (mn (l0_2.length : Int) (mn 130 (ji3))) ≤ (l0_2.length : Int) then (if y120.length + (l0_2.take ((mn (l0_2.length : Int) (mn 130 (ji3))) : Int).toNat).length < 35184372088832 then ((some (y120 ++ (l0_2.take ((mn (l0_2.length : Int) (mn 130 (ji3))) : Int).toNat) : List Int)).bind fun y124 => ((some (([] : List Int) : List Int)).bind fun y127 => (if 0 ≤ (mn (l0_3.length : Int) (mn 130 (ji3))) then (if (mn (l0_3.length : Int) (mn 130 (ji3))) ≤ (l0_3.length : Int) then (if y127.length + (l0_3.take ((mn (l0_3.length : Int) (mn 130 (ji3))) : Int).toNat).length < 35184372088832 then ((some (y127 ++ (l0_3.take ((mn (l0_3.length : Int) (mn 130 (ji3))) : Int).toNat) : List Int)).bind fun y131 => (some (a0_0, a0_1, y124, y131, wrap64 ((y124.length : Int) + (y131.length : Int))))) else (none)) else (none)) else (none)))) else (none)) else (none)) else (none))) = some (r1, r2, r3, r4, r5) := by first | (rw [hji3] at H; exact H) | (simp only [hji3] at H ⊢; exact H)
 (try (have hji3l : 2 ≤ ji3 := by (rw [← hji3]; unfold mx; (repeat' split) <;> omega)))
 (try (have hji3m : 0 ≤ ji3 := by omega))
 have hji3_ : (if 2 < (wrap64 (Int.tdiv a1 2)) then (wrap64 (Int.tdiv a1 2)) else 2) = ji3 := hji3
 obtain ⟨ji4, hji4⟩ : ∃ j_ : Int, (mn 130 (ji3)) = j_ := ⟨_, rfl⟩
 replace H : ((some (([] : List Int) : List Int)).bind fun y120 => (if 0 ≤ (mn (l0_2.length : Int) (ji4)) then (if (mn (l0_2.length : Int) (ji4)) ≤ (l0_2.length : Int) then (if y120.length + (l0_2.take ((mn (l0_2.length : Int) (ji4)) : Int).toNat).length < 35184372088832 then ((some (y120 ++ (l0_2.take ((mn (l0_2.length : Int) (ji4)) : Int).toNat) : List Int)).bind fun y124 => ((some (([] : List Int) : List Int)).bind fun y127 => (if 0 ≤ (mn (l0_3.length : Int) (ji4)) then (if (mn (l0_3.length : Int) (ji4)) ≤ (l0_3.length : Int) then (if y127.length + (l0_3.take ((mn (l0_3.length : Int) (ji4)) : Int).toNat).length < 35184372088832 then ((some (y127 ++ (l0_3.take ((mn (l0_3.length : Int) (ji4)) : Int).toNat) : List Int)).bind fun y131 => (some (a0_0, a0_1, y124, y131, wrap64 ((y124.length : Int) + (y131.length : Int))))) else (none)) else (none)) else (none)))) else (none)) else (none)) else (none))) = some (r1, r2, r3, r4, r5) := by first | (rw [hji4] at H; exact H) | (simp only [hji4] at H ⊢; exact H)
 have hji4_ : (if (ji3) < 130 then (ji3) else 130) = ji4 := hji4
 obtain ⟨y120, hy120⟩ : ∃ y_ : List Int, y_ = (([] : List Int)) := ⟨_, rfl⟩
 replace H : (if 0 ≤ (mn (l0_2.length : Int) (ji4)) then (if (mn (l0_2.length : Int) (ji4)) ≤ (l0_2.length : Int) then (if y120.length + (l0_2.take ((mn (l0_2.length : Int) (ji4)) : Int).toNat).length < 35184372088832 then ((some (y120 ++ (l0_2.take ((mn (l0_2.length : Int) (ji4)) : Int).toNat) : List Int)).bind fun y124 => ((some (([] : List Int) : List Int)).bind fun y127 => (if 0 ≤ (mn (l0_3.length : Int) (ji4)) then (if (mn (l0_3.length : Int) (ji4)) ≤ (l0_3.length : Int) then (if y127.length + (l0_3.take ((mn (l0_3.length : Int) (ji4)) : Int).toNat).length < 35184372088832 then ((some (y127 ++ (l0_3.take ((mn (l0_3.length : Int) (ji4)) : Int).toNat) : List Int)).bind fun y131 => (some (a0_0, a0_1, y124, y131, wrap64 ((y124.length : Int) + (y131.length : Int))))) else (none)) else (none)) else (none)))) else (none)) else (none)) else (none)) = some (r1, r2, r3, r4, r5) := by first | (rw [hy120]; with_reducible exact H) | (have H2_ := (Option.bind_some _ _).symm.trans H; rw [hy120]; with_reducible exact H2_) | (have H2_ := (Option.bind_some _ _).symm.trans H; with_reducible exact H2_) | with_reducible exact H | (rw [hy120]; exact H) | exact H
 have Ny120 := Aside0.mk hy120
 clear hy120
 obtain ⟨ji5, hji5⟩ : ∃ j_ : Int, (mn (l0_2.length : Int) (ji4)) = j_ := ⟨_, rfl⟩
 replace H : (if 0 ≤ (ji5) then (if (ji5) ≤ (l0_2.length : Int) then (if y120.length + (l0_2.take ((ji5) : Int).toNat).length < 35184372088832 then ((some (y120 ++ (l0_2.take ((ji5) : Int).toNat) : List Int)).bind fun y124 => ((some (([] : List Int) : List Int)).bind fun y127 => (if 0 ≤ (mn (l0_3.length : Int) (ji4)) then (if (mn (l0_3.length : Int) (ji4)) ≤ (l0_3.length : Int) then (if y127.length + (l0_3.take ((mn (l0_3.length : Int) (ji4)) : Int).toNat).length < 35184372088832 then ((some (y127 ++ (l0_3.take ((mn (l0_3.length : Int) (ji4)) : Int).toNat) : List Int)).bind fun y131 => (some (a0_0, a0_1, y124, y131, wrap64 ((y124.length : Int) + (y131.length : Int))))) else (none)) else (none)) else (none)))) else (none)) else (none)) else (none)) = some (r1, r2, r3, r4, r5) := by first | (rw [hji5] at H; exact H) | (simp only [hji5] at H ⊢; exact H)
 have hji5_ : (if (ji4) < (l0_2.length : Int) then (ji4) else (l0_2.length : Int)) = ji5 := hji5
 by_cases c6 : 0 ≤ (ji5)
 ·rw [if_pos c6] at H
  have c6b0 := eq_true c6
  have c6b1 : decide (0 ≤ (ji5)) = true := decide_eq_true c6
  clear c6
  by_cases c7 : (ji5) ≤ (l0_2.length : Int)
  ·rw [if_pos c7] at H
   have c7b0 := eq_true c7
   have c7b1 : decide ((ji5) ≤ (l0_2.length : Int)) = true := decide_eq_true c7
   clear c7
   by_cases c8 : y120.length + (l0_2.take ((ji5) : Int).toNat).length < 35184372088832
   ·rw [if_pos c8] at H
    have LMc8 := Aside0.mk c8
    clear c8
    obtain ⟨y124, hy124⟩ : ∃ y_ : List Int, y_ = (y120 ++ (l0_2.take ((ji5) : Int).toNat)) := ⟨_, rfl⟩
    replace H : ((some (([] : List Int) : List Int)).bind fun y127 => (if 0 ≤ (mn (l0_3.length : Int) (ji4)) then (if (mn (l0_3.length : Int) (ji4)) ≤ (l0_3.length : Int) then (if y127.length + (l0_3.take ((mn (l0_3.length : Int) (ji4)) : Int).toNat).length < 35184372088832 then ((some (y127 ++ (l0_3.take ((mn (l0_3.length : Int) (ji4)) : Int).toNat) : List Int)).bind fun y131 => (some (a0_0, a0_1, y124, y131, wrap64 ((y124.length : Int) + (y131.length : Int))))) else (none)) else (none)) else (none))) = some (r1, r2, r3, r4, r5) := by first | (rw [hy124]; with_reducible exact H) | (have H2_ := (Option.bind_some _ _).symm.trans H; rw [hy124]; with_reducible exact H2_) | (have H2_ := (Option.bind_some _ _).symm.trans H; with_reducible exact H2_) | with_reducible exact H | (rw [hy124]; exact H) | exact H
    have Ny124 := Aside0.mk hy124
    clear hy124
    obtain ⟨y127, hy127⟩ : ∃ y_ : List Int, y_ = (([] : List Int)) := ⟨_, rfl⟩
    replace H : (if 0 ≤ (mn (l0_3.length : Int) (ji4)) then (if (mn (l0_3.length : Int) (ji4)) ≤ (l0_3.length : Int) then (if y127.length + (l0_3.take ((mn (l0_3.length : Int) (ji4)) : Int).toNat).length < 35184372088832 then ((some (y127 ++ (l0_3.take ((mn (l0_3.length : Int) (ji4)) : Int).toNat) : List Int)).bind fun y131 => (some (a0_0, a0_1, y124, y131, wrap64 ((y124.length : Int) + (y131.length : Int))))) else (none)) else (none)) else (none)) = some (r1, r2, r3, r4, r5) := by first | (rw [hy127]; with_reducible exact H) | (have H2_ := (Option.bind_some _ _).symm.trans H; rw [hy127]; with_reducible exact H2_) | (have H2_ := (Option.bind_some _ _).symm.trans H; with_reducible exact H2_) | with_reducible exact H | (rw [hy127]; exact H) | exact H
    have Ny127 := Aside0.mk hy127
    clear hy127
    obtain ⟨ji9, hji9⟩ : ∃ j_ : Int, (mn (l0_3.length : Int) (ji4)) = j_ := ⟨_, rfl⟩
    replace H : (if 0 ≤ (ji9) then (if (ji9) ≤ (l0_3.length : Int) then (if y127.length + (l0_3.take ((ji9) : Int).toNat).length < 35184372088832 then ((some (y127 ++ (l0_3.take ((ji9) : Int).toNat) : List Int)).bind fun y131 => (some (a0_0, a0_1, y124, y131, wrap64 ((y124.length : Int) + (y131.length : Int))))) else (none)) else (none)) else (none)) = some (r1, r2, r3, r4, r5) := by first | (rw [hji9] at H; exact H) | (simp only [hji9] at H ⊢; exact H)
    have hji9_ : (if (ji4) < (l0_3.length : Int) then (ji4) else (l0_3.length : Int)) = ji9 := hji9
    by_cases c10 : 0 ≤ (ji9)
    ·rw [if_pos c10] at H
     have c10b0 := eq_true c10
     have c10b1 : decide (0 ≤ (ji9)) = true := decide_eq_true c10
     clear c10
     by_cases c11 : (ji9) ≤ (l0_3.length : Int)
     ·rw [if_pos c11] at H
      have c11b0 := eq_true c11
      have c11b1 : decide ((ji9) ≤ (l0_3.length : Int)) = true := decide_eq_true c11
      clear c11
      by_cases c12 : y127.length + (l0_3.take ((ji9) : Int).toNat).length < 35184372088832
      ·rw [if_pos c12] at H
       have LMc12 := Aside0.mk c12
       clear c12
       obtain ⟨y131, hy131⟩ : ∃ y_ : List Int, y_ = (y127 ++ (l0_3.take ((ji9) : Int).toNat)) := ⟨_, rfl⟩
       replace H : (some (a0_0, a0_1, y124, y131, wrap64 ((y124.length : Int) + (y131.length : Int)))) = some (r1, r2, r3, r4, r5) := by first | (rw [hy131]; with_reducible exact H) | (have H2_ := (Option.bind_some _ _).symm.trans H; rw [hy131]; with_reducible exact H2_) | (have H2_ := (Option.bind_some _ _).symm.trans H; with_reducible exact H2_) | with_reducible exact H | (rw [hy131]; exact H) | exact H
       have Ny131 := Aside0.mk hy131
       clear hy131
       simp only [Option.some.injEq, Prod.mk.injEq] at H
       obtain ⟨rfl, rfl, rfl, rfl, rfl⟩ := H
       go_enter Tryz.func85, Tryz.ntmps85
       try go_wp2_with (first | ((with_reducible refine gate_dst (N := 2) rfl ?_); refine bx (N := 2) (cs := #[.int .i64 a0_0, .bool a0_1, .slice A0_2 l0_2.length c0_2, .slice A0_3 l0_3.length c0_3]) (t := 61) ?_; intro gb118 hg w13 hbox hb; have BK118 := Aside0.mk (hbox); have GW118 := (gz hg HB : Aside0 (w.heap.size ≤ gb118)); have GE118 := (gz hg HB : Aside0 (w.heap.size ≤ gb118)); replace HB := Aside0.mk (below_step (bl HB) hb); clear hb hbox hg) | ((with_reducible refine gate_dst (N := 4) rfl ?_); refine bx (N := 4) (cs := #[.int .i64 0, .bool false, .slice none 0 0, .slice none 0 0]) (t := 61) ?_; intro gb119 hg w14 hbox hb; have n0_ := Aside0.mk (blk_below (g := gb118) (o := .cells #[.int .i64 a0_0, .bool a0_1, .slice A0_2 l0_2.length c0_2, .slice A0_3 l0_3.length c0_3] 61 (0, 0)) (bk BK118) hb); have n1_ := Aside0.mk (below_step (bl HB) hb); have n2_ := Aside0.mk (hbox); have n3_ := (gz hg HB : Aside0 (w.heap.size ≤ gb119)); have n4_ := (gz hg HB : Aside0 (w.heap.size ≤ gb119)); have n5_ := Aside0.mk ((by rw [hg]; exact Nat.ne_of_lt (blk_lt (g := gb118) (o := .cells #[.int .i64 a0_0, .bool a0_1, .slice A0_2 l0_2.length c0_2, .slice A0_3 l0_3.length c0_3] 61 (0, 0)) (bk BK118)) : gb118 ≠ gb119)); have n6_ := Aside0.mk ((by rw [hg]; exact Nat.ne_of_gt (blk_lt (g := gb118) (o := .cells #[.int .i64 a0_0, .bool a0_1, .slice A0_2 l0_2.length c0_2, .slice A0_3 l0_3.length c0_3] 61 (0, 0)) (bk BK118)) : gb119 ≠ gb118)); clear BK118; clear HB; have BK118 := n0_; have HB := n1_; have BK119 := n2_; have GW119 := n3_; have GE119 := n4_; have NB118_119 := n5_; have NB119_118 := n6_; clear n0_ n1_ n2_ n3_ n4_ n5_ n6_; clear hb hbox hg))
       have n0_ := Aside0.mk (blk_drew BK118.out)
       have n1_ := Aside0.mk (blk_drew BK119.out)
       have n2_ := Aside0.mk (below_drew1 HB.out)
       clear BK118
       clear BK119
       clear HB
       have BK118 := n0_
       have BK119 := n1_
       have HB := n2_
       clear n0_ n1_ n2_
       obtain ⟨i016, hi016, _, hsz16, _⟩ := info_parts info145
       obtain ⟨hcut16, hA16, hC16⟩ := print_take_of (P := Tryz.prog) (Value.int .u32) 0 59 145 .i64 Tryz.underlying59 hi016 hsz16 A0_2 c0_2 l0_2 (ji5) (oa) (oa) HC0_2.out
       have HR123 := Aside0.mk (Kd.C_of_reads (h1 := fun _ => rfl) (hA16 _ (Kd.reads_of_C HR0_2.out)))
       have HC123 := Aside0.mk hC16
       clear hA16 hC16 hi016 hsz16
       obtain ⟨i017, hi017, _, hsz17, _⟩ := info_parts info145
       obtain ⟨hcut17, hA17, hC17⟩ := print_take_of (P := Tryz.prog) (Value.int .u32) 0 59 145 .i64 Tryz.underlying59 hi017 hsz17 A0_3 c0_3 l0_3 (ji9) (oa) (oa) HC0_3.out
       have HR130 := Aside0.mk (Kd.C_of_reads (h1 := fun _ => rfl) (hA17 _ (Kd.reads_of_C HR0_3.out)))
       have HC130 := Aside0.mk hC17
       clear hA17 hC17 hi017 hsz17
       refine start_ (n := 27) (S := fun w' => w'.cell? ⟨gb118, 0, none⟩ = some (.int .i64 a0_0) ∧ w'.cell? ⟨gb118, 1, none⟩ = some (.bool a0_1) ∧ w'.cell? ⟨gb118, 2, none⟩ = some (.slice A0_2 l0_2.length c0_2) ∧ w'.cell? ⟨gb118, 3, none⟩ = some (.slice A0_3 l0_3.length c0_3)) (ds := []) (mk 27 0) (by kernel_rfl) rfl (by kernel_rfl) ⟨(blk_cell BK118.out 0).trans rfl, (blk_cell BK118.out 1).trans rfl, (blk_cell BK118.out 2).trans rfl, (blk_cell BK118.out 3).trans rfl⟩ (fun hHeld => ?_); refine with_tabW fluxionref08_CutRat.tab2 fluxionref08_CutRat.bits2 (fun HT_ HW_ => ?_)
       generalize w14.drew = w15 at BK118 BK119 HB HR123 HR130 hHeld ⊢
       refine pu 0 12 (mk 27 1) (any_of HT_.out (by kernel_rfl)) ?_
       refine pu 2 14 (mk 27 5) (any_of HT_.out (by kernel_rfl)) ?_
       refine pu 5 17 (mk 27 37) (any_of HT_.out (by kernel_rfl)) ?_
       refine pu 7 19 (mk 27 165) (any_of HT_.out (by kernel_rfl)) ?_
       refine pu 10 22 (mk 27 1189) (any_of HT_.out (by kernel_rfl)) ?_
       refine pu 15 27 (mk 27 33957) (any_of HT_.out (by kernel_rfl)) ?_
       refine pu 17 29 (mk 27 165029) (any_of HT_.out (by kernel_rfl)) ?_
       refine pu 20 32 (mk 27 1213605) (any_of HT_.out (by kernel_rfl)) ?_
       refine tk 1 13 (mk 27 1213607) (take_ofW HT_.out HW_.out (by kernel_rfl)) hHeld ?_
       refine tk 3 15 (mk 27 1213615) (take_ofW HT_.out HW_.out (by kernel_rfl)) hHeld ?_
       refine tk 6 18 (mk 27 1213679) (take_ofW HT_.out HW_.out (by kernel_rfl)) hHeld ?_
       refine tk 8 20 (mk 27 1213935) (take_ofW HT_.out HW_.out (by kernel_rfl)) hHeld ?_
       refine pu 9 21 (mk 27 1214447) (any_of HT_.out (by kernel_rfl)) ?_
       refine pu 11 23 (mk 27 1216495) (any_of HT_.out (by kernel_rfl)) ?_
       refine pu 12 24 (mk 27 1220591) (any_of HT_.out (by kernel_rfl)) ?_
       refine tk 16 28 (mk 27 1286127) (take_ofW HT_.out HW_.out (by kernel_rfl)) hHeld ?_
       refine tk 18 30 (mk 27 1548271) (take_ofW HT_.out HW_.out (by kernel_rfl)) hHeld ?_
       refine pu 19 31 (mk 27 2072559) (any_of HT_.out (by kernel_rfl)) ?_
       refine pu 21 33 (mk 27 4169711) (any_of HT_.out (by kernel_rfl)) ?_
       refine pu 22 34 (mk 27 8364015) (any_of HT_.out (by kernel_rfl)) ?_
       refine join_ (σ := Value × Value × Value × Value × Nat) 1 (mk 27 67108863) (fun s_ => [(16, s_.1), (25, s_.2.1), (26, s_.2.2.1), (35, s_.2.2.2.1), (7, .pointer (some ⟨s_.2.2.2.2, 0, none⟩)), (36, .agg #[.int .i64 a0_0, .bool a0_1, s_.2.1, s_.2.2.2.1])]) (fun s_ w' => (w'.cell? ⟨gb118, 0, none⟩ = some (.int .i64 a0_0) ∧ w'.cell? ⟨gb118, 1, none⟩ = some (.bool a0_1) ∧ w'.cell? ⟨gb118, 2, none⟩ = some (.slice A0_2 l0_2.length c0_2) ∧ w'.cell? ⟨gb118, 3, none⟩ = some (.slice A0_3 l0_3.length c0_3)) ∧ (Kd.R (Kd.int .u32) 145 w' w.heap.size (fun k_ => some k_ ≠ (s_.2.2.2.1 : Value).ownBlock) s_.2.1 y124) ∧ (Kd.R (Kd.int .u32) 145 w' w.heap.size (fun k_ => some k_ ≠ (s_.2.1 : Value).ownBlock) s_.2.2.2.1 y131) ∧ (w'.heap[gb118]? = some (.cells #[.int .i64 a0_0, .bool a0_1, .slice A0_2 l0_2.length c0_2, .slice A0_3 l0_3.length c0_3] 61 (0, 0))) ∧ (w'.heap[gb119]? = some (.cells #[.int .i64 0, .bool false, .slice none 0 0, .slice none 0 0] 61 (0, 0))) ∧ (w'.heap[s_.2.2.2.2]? = some (.cells #[.int .i64 0, .bool false, .slice none 0 0, .slice none 0 0] 61 (0, 0))) ∧ (w.heap.size ≤ s_.2.2.2.2) ∧ (w.heap.size ≤ s_.2.2.2.2) ∧ (gb118 ≠ s_.2.2.2.2) ∧ (s_.2.2.2.2 ≠ gb118) ∧ (gb119 ≠ s_.2.2.2.2) ∧ (s_.2.2.2.2 ≠ gb119) ∧ (Below w.heap.size w w')) ?_ ?_
       rotate_left
       ·intro hJ4_13_14_23_25
        refine join_ (σ := Value × Value × Value × Value) 2 (mk 27 33554431) (fun s_ => [(16, s_.1), (25, s_.2.1), (26, s_.2.2.1), (35, s_.2.2.2), (36, .agg #[.int .i64 a0_0, .bool a0_1, s_.2.1, s_.2.2.2])]) (fun s_ w' => (w'.cell? ⟨gb118, 0, none⟩ = some (.int .i64 a0_0) ∧ w'.cell? ⟨gb118, 1, none⟩ = some (.bool a0_1) ∧ w'.cell? ⟨gb118, 2, none⟩ = some (.slice A0_2 l0_2.length c0_2) ∧ w'.cell? ⟨gb118, 3, none⟩ = some (.slice A0_3 l0_3.length c0_3)) ∧ (Kd.R (Kd.int .u32) 145 w' w.heap.size (fun k_ => some k_ ≠ (s_.2.2.2 : Value).ownBlock) s_.2.1 y124) ∧ (Kd.R (Kd.int .u32) 145 w' w.heap.size (fun k_ => some k_ ≠ (s_.2.1 : Value).ownBlock) s_.2.2.2 y131) ∧ (w'.heap[gb118]? = some (.cells #[.int .i64 a0_0, .bool a0_1, .slice A0_2 l0_2.length c0_2, .slice A0_3 l0_3.length c0_3] 61 (0, 0))) ∧ (w'.heap[gb119]? = some (.cells #[.int .i64 0, .bool false, .slice none 0 0, .slice none 0 0] 61 (0, 0))) ∧ (Below w.heap.size w w')) ?_ ?_
        rotate_left
        ·intro hJ4_13_14_23
         refine join_ (σ := Value × Value × Value × Nat) 3 (mk 27 41943039) (fun s_ => [(16, s_.1), (25, s_.2.1), (26, s_.2.2.1), (7, .pointer (some ⟨s_.2.2.2, 0, none⟩))]) (fun s_ w' => (w'.cell? ⟨gb118, 0, none⟩ = some (.int .i64 a0_0) ∧ w'.cell? ⟨gb118, 1, none⟩ = some (.bool a0_1) ∧ w'.cell? ⟨gb118, 2, none⟩ = some (.slice A0_2 l0_2.length c0_2) ∧ w'.cell? ⟨gb118, 3, none⟩ = some (.slice A0_3 l0_3.length c0_3)) ∧ (Kd.R (Kd.int .u32) 145 w' w.heap.size (fun k_ => some k_ ≠ (s_.2.2.1 : Value).ownBlock) s_.2.1 y124) ∧ (Kd.R (Kd.int .u32) 145 w' w.heap.size (fun k_ => some k_ ≠ (s_.2.1 : Value).ownBlock) s_.2.2.1 y127) ∧ (w'.heap[gb118]? = some (.cells #[.int .i64 a0_0, .bool a0_1, .slice A0_2 l0_2.length c0_2, .slice A0_3 l0_3.length c0_3] 61 (0, 0))) ∧ (w'.heap[gb119]? = some (.cells #[.int .i64 0, .bool false, .slice none 0 0, .slice none 0 0] 61 (0, 0))) ∧ (w'.heap[s_.2.2.2]? = some (.cells #[.int .i64 0, .bool false, .slice none 0 0, .slice none 0 0] 61 (0, 0))) ∧ (w.heap.size ≤ s_.2.2.2) ∧ (w.heap.size ≤ s_.2.2.2) ∧ (gb118 ≠ s_.2.2.2) ∧ (s_.2.2.2 ≠ gb118) ∧ (gb119 ≠ s_.2.2.2) ∧ (s_.2.2.2 ≠ gb119) ∧ (Below w.heap.size w w')) ?_ ?_
         rotate_left
         ·intro hJ4_13_14_25
          refine join_ (σ := Value × Value × Value) 4 (mk 27 8388607) (fun s_ => [(16, s_.1), (25, s_.2.1), (26, s_.2.2)]) (fun s_ w' => (w'.cell? ⟨gb118, 0, none⟩ = some (.int .i64 a0_0) ∧ w'.cell? ⟨gb118, 1, none⟩ = some (.bool a0_1) ∧ w'.cell? ⟨gb118, 2, none⟩ = some (.slice A0_2 l0_2.length c0_2) ∧ w'.cell? ⟨gb118, 3, none⟩ = some (.slice A0_3 l0_3.length c0_3)) ∧ (Kd.R (Kd.int .u32) 145 w' w.heap.size (fun k_ => some k_ ≠ (s_.2.2 : Value).ownBlock) s_.2.1 y124) ∧ (Kd.R (Kd.int .u32) 145 w' w.heap.size (fun k_ => some k_ ≠ (s_.2.1 : Value).ownBlock) s_.2.2 y127) ∧ (w'.heap[gb118]? = some (.cells #[.int .i64 a0_0, .bool a0_1, .slice A0_2 l0_2.length c0_2, .slice A0_3 l0_3.length c0_3] 61 (0, 0))) ∧ (w'.heap[gb119]? = some (.cells #[.int .i64 0, .bool false, .slice none 0 0, .slice none 0 0] 61 (0, 0))) ∧ (Below w.heap.size w w')) ?_ ?_
          rotate_left
          ·intro hJ4_13_14
           refine join_ (σ := Value × Value × Nat) 4 (mk 27 41926655) (fun s_ => [(16, s_.1), (25, s_.2.1), (7, .pointer (some ⟨s_.2.2, 0, none⟩))]) (fun s_ w' => (w'.cell? ⟨gb118, 0, none⟩ = some (.int .i64 a0_0) ∧ w'.cell? ⟨gb118, 1, none⟩ = some (.bool a0_1) ∧ w'.cell? ⟨gb118, 2, none⟩ = some (.slice A0_2 l0_2.length c0_2) ∧ w'.cell? ⟨gb118, 3, none⟩ = some (.slice A0_3 l0_3.length c0_3)) ∧ (Kd.R (Kd.int .u32) 145 w' w.heap.size (fun _ => True) s_.2.1 y124) ∧ (w'.heap[gb118]? = some (.cells #[.int .i64 a0_0, .bool a0_1, .slice A0_2 l0_2.length c0_2, .slice A0_3 l0_3.length c0_3] 61 (0, 0))) ∧ (w'.heap[gb119]? = some (.cells #[.int .i64 0, .bool false, .slice none 0 0, .slice none 0 0] 61 (0, 0))) ∧ (w'.heap[s_.2.2]? = some (.cells #[.int .i64 0, .bool false, .slice none 0 0, .slice none 0 0] 61 (0, 0))) ∧ (w.heap.size ≤ s_.2.2) ∧ (w.heap.size ≤ s_.2.2) ∧ (gb118 ≠ s_.2.2) ∧ (s_.2.2 ≠ gb118) ∧ (gb119 ≠ s_.2.2) ∧ (s_.2.2 ≠ gb119) ∧ (Below w.heap.size w w')) ?_ ?_
           rotate_left
           ·intro hJ4_13_25
            refine join_ (σ := Value × Value × Nat) 4 (mk 27 41934847) (fun s_ => [(16, s_.1), (26, s_.2.1), (7, .pointer (some ⟨s_.2.2, 0, none⟩))]) (fun s_ w' => (w'.cell? ⟨gb118, 0, none⟩ = some (.int .i64 a0_0) ∧ w'.cell? ⟨gb118, 1, none⟩ = some (.bool a0_1) ∧ w'.cell? ⟨gb118, 2, none⟩ = some (.slice A0_2 l0_2.length c0_2) ∧ w'.cell? ⟨gb118, 3, none⟩ = some (.slice A0_3 l0_3.length c0_3)) ∧ (Kd.R (Kd.int .u32) 145 w' w.heap.size (fun k_ => some k_ ≠ (s_.2.1 : Value).ownBlock) s_.1 y120) ∧ (Kd.R (Kd.int .u32) 145 w' w.heap.size (fun k_ => some k_ ≠ (s_.1 : Value).ownBlock) s_.2.1 y127) ∧ (w'.heap[gb118]? = some (.cells #[.int .i64 a0_0, .bool a0_1, .slice A0_2 l0_2.length c0_2, .slice A0_3 l0_3.length c0_3] 61 (0, 0))) ∧ (w'.heap[gb119]? = some (.cells #[.int .i64 0, .bool false, .slice none 0 0, .slice none 0 0] 61 (0, 0))) ∧ (w'.heap[s_.2.2]? = some (.cells #[.int .i64 0, .bool false, .slice none 0 0, .slice none 0 0] 61 (0, 0))) ∧ (w.heap.size ≤ s_.2.2) ∧ (w.heap.size ≤ s_.2.2) ∧ (gb118 ≠ s_.2.2) ∧ (s_.2.2 ≠ gb118) ∧ (gb119 ≠ s_.2.2) ∧ (s_.2.2 ≠ gb119) ∧ (Below w.heap.size w w')) ?_ ?_
            rotate_left
            ·intro hJ4_14_25
             refine join_ (σ := Value × Value) 5 (mk 27 8372223) (fun s_ => [(16, s_.1), (25, s_.2)]) (fun s_ w' => (w'.cell? ⟨gb118, 0, none⟩ = some (.int .i64 a0_0) ∧ w'.cell? ⟨gb118, 1, none⟩ = some (.bool a0_1) ∧ w'.cell? ⟨gb118, 2, none⟩ = some (.slice A0_2 l0_2.length c0_2) ∧ w'.cell? ⟨gb118, 3, none⟩ = some (.slice A0_3 l0_3.length c0_3)) ∧ (Kd.R (Kd.int .u32) 145 w' w.heap.size (fun _ => True) s_.2 y124) ∧ (w'.heap[gb118]? = some (.cells #[.int .i64 a0_0, .bool a0_1, .slice A0_2 l0_2.length c0_2, .slice A0_3 l0_3.length c0_3] 61 (0, 0))) ∧ (w'.heap[gb119]? = some (.cells #[.int .i64 0, .bool false, .slice none 0 0, .slice none 0 0] 61 (0, 0))) ∧ (Below w.heap.size w w')) ?_ ?_
             rotate_left
             ·intro hJ4_13
              refine join_ (σ := Value × Value) 5 (mk 27 8380415) (fun s_ => [(16, s_.1), (26, s_.2)]) (fun s_ w' => (w'.cell? ⟨gb118, 0, none⟩ = some (.int .i64 a0_0) ∧ w'.cell? ⟨gb118, 1, none⟩ = some (.bool a0_1) ∧ w'.cell? ⟨gb118, 2, none⟩ = some (.slice A0_2 l0_2.length c0_2) ∧ w'.cell? ⟨gb118, 3, none⟩ = some (.slice A0_3 l0_3.length c0_3)) ∧ (Kd.R (Kd.int .u32) 145 w' w.heap.size (fun k_ => some k_ ≠ (s_.2 : Value).ownBlock) s_.1 y120) ∧ (Kd.R (Kd.int .u32) 145 w' w.heap.size (fun k_ => some k_ ≠ (s_.1 : Value).ownBlock) s_.2 y127) ∧ (w'.heap[gb118]? = some (.cells #[.int .i64 a0_0, .bool a0_1, .slice A0_2 l0_2.length c0_2, .slice A0_3 l0_3.length c0_3] 61 (0, 0))) ∧ (w'.heap[gb119]? = some (.cells #[.int .i64 0, .bool false, .slice none 0 0, .slice none 0 0] 61 (0, 0))) ∧ (Below w.heap.size w w')) ?_ ?_
              rotate_left
              ·intro hJ4_14
               refine join_ (σ := Value × Nat) 5 (mk 27 41918463) (fun s_ => [(16, s_.1), (7, .pointer (some ⟨s_.2, 0, none⟩))]) (fun s_ w' => (w'.cell? ⟨gb118, 0, none⟩ = some (.int .i64 a0_0) ∧ w'.cell? ⟨gb118, 1, none⟩ = some (.bool a0_1) ∧ w'.cell? ⟨gb118, 2, none⟩ = some (.slice A0_2 l0_2.length c0_2) ∧ w'.cell? ⟨gb118, 3, none⟩ = some (.slice A0_3 l0_3.length c0_3)) ∧ (Kd.R (Kd.int .u32) 145 w' w.heap.size (fun _ => True) s_.1 y120) ∧ (w'.heap[gb118]? = some (.cells #[.int .i64 a0_0, .bool a0_1, .slice A0_2 l0_2.length c0_2, .slice A0_3 l0_3.length c0_3] 61 (0, 0))) ∧ (w'.heap[gb119]? = some (.cells #[.int .i64 0, .bool false, .slice none 0 0, .slice none 0 0] 61 (0, 0))) ∧ (w'.heap[s_.2]? = some (.cells #[.int .i64 0, .bool false, .slice none 0 0, .slice none 0 0] 61 (0, 0))) ∧ (w.heap.size ≤ s_.2) ∧ (w.heap.size ≤ s_.2) ∧ (gb118 ≠ s_.2) ∧ (s_.2 ≠ gb118) ∧ (gb119 ≠ s_.2) ∧ (s_.2 ≠ gb119) ∧ (Below w.heap.size w w')) ?_ ?_
               rotate_left
               ·intro hJ4_25
                refine join_ (σ := Value × Nat) 5 (mk 27 41934831) (fun s_ => [(26, s_.1), (7, .pointer (some ⟨s_.2, 0, none⟩))]) (fun s_ w' => (w'.cell? ⟨gb118, 0, none⟩ = some (.int .i64 a0_0) ∧ w'.cell? ⟨gb118, 1, none⟩ = some (.bool a0_1) ∧ w'.cell? ⟨gb118, 2, none⟩ = some (.slice A0_2 l0_2.length c0_2) ∧ w'.cell? ⟨gb118, 3, none⟩ = some (.slice A0_3 l0_3.length c0_3)) ∧ (Kd.R (Kd.int .u32) 145 w' w.heap.size (fun _ => True) s_.1 y127) ∧ (w'.heap[gb118]? = some (.cells #[.int .i64 a0_0, .bool a0_1, .slice A0_2 l0_2.length c0_2, .slice A0_3 l0_3.length c0_3] 61 (0, 0))) ∧ (w'.heap[gb119]? = some (.cells #[.int .i64 0, .bool false, .slice none 0 0, .slice none 0 0] 61 (0, 0))) ∧ (w'.heap[s_.2]? = some (.cells #[.int .i64 0, .bool false, .slice none 0 0, .slice none 0 0] 61 (0, 0))) ∧ (w.heap.size ≤ s_.2) ∧ (w.heap.size ≤ s_.2) ∧ (gb118 ≠ s_.2) ∧ (s_.2 ≠ gb118) ∧ (gb119 ≠ s_.2) ∧ (s_.2 ≠ gb119) ∧ (Below w.heap.size w w')) ?_ ?_
                rotate_left
                ·intro hJ14_25
                 refine join_ (σ := Value) 6 (mk 27 8364031) (fun s_ => [(16, s_)]) (fun s_ w' => (w'.cell? ⟨gb118, 0, none⟩ = some (.int .i64 a0_0) ∧ w'.cell? ⟨gb118, 1, none⟩ = some (.bool a0_1) ∧ w'.cell? ⟨gb118, 2, none⟩ = some (.slice A0_2 l0_2.length c0_2) ∧ w'.cell? ⟨gb118, 3, none⟩ = some (.slice A0_3 l0_3.length c0_3)) ∧ (Kd.R (Kd.int .u32) 145 w' w.heap.size (fun _ => True) s_ y120) ∧ (w'.heap[gb118]? = some (.cells #[.int .i64 a0_0, .bool a0_1, .slice A0_2 l0_2.length c0_2, .slice A0_3 l0_3.length c0_3] 61 (0, 0))) ∧ (w'.heap[gb119]? = some (.cells #[.int .i64 0, .bool false, .slice none 0 0, .slice none 0 0] 61 (0, 0))) ∧ (Below w.heap.size w w')) ?_ ?_
                 rotate_left
                 ·intro hJ4
                  refine join_ (σ := Value) 6 (mk 27 8380399) (fun s_ => [(26, s_)]) (fun s_ w' => (w'.cell? ⟨gb118, 0, none⟩ = some (.int .i64 a0_0) ∧ w'.cell? ⟨gb118, 1, none⟩ = some (.bool a0_1) ∧ w'.cell? ⟨gb118, 2, none⟩ = some (.slice A0_2 l0_2.length c0_2) ∧ w'.cell? ⟨gb118, 3, none⟩ = some (.slice A0_3 l0_3.length c0_3)) ∧ (Kd.R (Kd.int .u32) 145 w' w.heap.size (fun _ => True) s_ y127) ∧ (w'.heap[gb118]? = some (.cells #[.int .i64 a0_0, .bool a0_1, .slice A0_2 l0_2.length c0_2, .slice A0_3 l0_3.length c0_3] 61 (0, 0))) ∧ (w'.heap[gb119]? = some (.cells #[.int .i64 0, .bool false, .slice none 0 0, .slice none 0 0] 61 (0, 0))) ∧ (Below w.heap.size w w')) ?_ ?_
                  rotate_left
                  ·intro hJ14
                   refine join_ (σ := Nat) 6 (mk 27 41918447) (fun s_ => [(7, .pointer (some ⟨s_, 0, none⟩))]) (fun s_ w' => (w'.cell? ⟨gb118, 0, none⟩ = some (.int .i64 a0_0) ∧ w'.cell? ⟨gb118, 1, none⟩ = some (.bool a0_1) ∧ w'.cell? ⟨gb118, 2, none⟩ = some (.slice A0_2 l0_2.length c0_2) ∧ w'.cell? ⟨gb118, 3, none⟩ = some (.slice A0_3 l0_3.length c0_3)) ∧ (w'.heap[gb118]? = some (.cells #[.int .i64 a0_0, .bool a0_1, .slice A0_2 l0_2.length c0_2, .slice A0_3 l0_3.length c0_3] 61 (0, 0))) ∧ (w'.heap[gb119]? = some (.cells #[.int .i64 0, .bool false, .slice none 0 0, .slice none 0 0] 61 (0, 0))) ∧ (w'.heap[s_]? = some (.cells #[.int .i64 0, .bool false, .slice none 0 0, .slice none 0 0] 61 (0, 0))) ∧ (w.heap.size ≤ s_) ∧ (w.heap.size ≤ s_) ∧ (gb118 ≠ s_) ∧ (s_ ≠ gb118) ∧ (gb119 ≠ s_) ∧ (s_ ≠ gb119) ∧ (Below w.heap.size w w')) ?_ ?_
                   rotate_left
                   ·intro hJ25
                    refine three_ (i := 4) (j := 14) (k := 25) (Ni := some 16) (Nj := some 26) (Nk := some 7) (mk 27 8364031) (mk 27 8380399) (mk 27 41918447) rfl rfl rfl rfl rfl rfl (three_of HT_.out (by kernel_rfl)) (by decide) (by decide) (by decide) (fun K hK => ?_) (fun K hK => ?_) (fun K hK => ?_)
                    ·skip
                     refine Kd.R_lit_step (Kd.int .u32) _ 145 ?hg (N := 16) ?hd (xs := ([] : List Int)) (inner := []) (ok := fun _ => True) (okp := fun _ => True) ?hr ?hp (fun _ hk => hk) trivial (Below.refl _ _) (Nat.le_refl _) (by simp) ?_; (case hd => rfl); (case hg => rfl); (case hr => first | (go_simp; done) | (go_simp; rfl)); (case hp => exact (Reps.none _ _))
                     intro v121 w18 ho19 hb hg_ hnew_
                     clear hg_ hnew_
                     (first | rw [← Ny120.out] at ho19 | (simp only [Int.reduceToNat] at ho19; rw [← Ny120.out] at ho19))
                     have n0_ := Aside0.mk (Kd.R_lower ho19 (below_size (bl HB)))
                     have n1_ := Aside0.mk (blk_below (g := gb118) (o := .cells #[.int .i64 a0_0, .bool a0_1, .slice A0_2 l0_2.length c0_2, .slice A0_3 l0_3.length c0_3] 61 (0, 0)) (bk BK118) hb)
                     have n2_ := Aside0.mk (blk_below (g := gb119) (o := .cells #[.int .i64 0, .bool false, .slice none 0 0, .slice none 0 0] 61 (0, 0)) (bk BK119) hb)
                     have n3_ := Aside0.mk (below_step (bl HB) hb)
                     clear BK118
                     clear BK119
                     clear HB
                     have HO122 := n0_
                     have BK118 := n1_
                     have BK119 := n2_
                     have HB := n3_
                     clear n0_ n1_ n2_ n3_
                     clear hb ho19
                     refine hK.out _ _ ⟨(blk_cell BK118.out 0).trans rfl, (blk_cell BK118.out 1).trans rfl, (blk_cell BK118.out 2).trans rfl, (blk_cell BK118.out 3).trans rfl⟩ (fun hHeld => ?_)
                     clear hK K
                     refine norm_ (a' := ?_) ?_ ?_
                     rotate_left
                     ·show Act.put _ (some 16) _ = _
                      simp only [Act.put, List.setIfInBounds_toArray, List.set_cons_zero, List.set_cons_succ, i64_w, i32_w]
                      rfl
                     exact norm_ (by first | (simp only [putAll, Act.put, List.setIfInBounds_toArray, List.set_cons_zero, List.set_cons_succ]; done) | (simp only [putAll, Act.put, List.setIfInBounds_toArray, List.set_cons_zero, List.set_cons_succ]; rfl)) (hJ4 (v121) _ ⟨hHeld, (by (with_reducible repeat (first | apply Kd.R_alloc | apply Kd.R_drewN | apply Kd.R_drew)); exact HO122.out), (bk BK118), (bk BK119), (bl HB)⟩)
                    ·skip
                     refine Kd.R_lit_step (Kd.int .u32) _ 145 ?hg (N := 26) ?hd (xs := ([] : List Int)) (inner := []) (ok := fun _ => True) (okp := fun _ => True) ?hr ?hp (fun _ hk => hk) trivial (Below.refl _ _) (Nat.le_refl _) (by simp) ?_; (case hd => rfl); (case hg => rfl); (case hr => first | (go_simp; done) | (go_simp; rfl)); (case hp => exact (Reps.none _ _))
                     intro v128 w18 ho19 hb hg_ hnew_
                     clear hg_ hnew_
                     (first | rw [← Ny127.out] at ho19 | (simp only [Int.reduceToNat] at ho19; rw [← Ny127.out] at ho19))
                     have n0_ := Aside0.mk (Kd.R_lower ho19 (below_size (bl HB)))
                     have n1_ := Aside0.mk (blk_below (g := gb118) (o := .cells #[.int .i64 a0_0, .bool a0_1, .slice A0_2 l0_2.length c0_2, .slice A0_3 l0_3.length c0_3] 61 (0, 0)) (bk BK118) hb)
                     have n2_ := Aside0.mk (blk_below (g := gb119) (o := .cells #[.int .i64 0, .bool false, .slice none 0 0, .slice none 0 0] 61 (0, 0)) (bk BK119) hb)
                     have n3_ := Aside0.mk (below_step (bl HB) hb)
                     clear BK118
                     clear BK119
                     clear HB
                     have HO129 := n0_
                     have BK118 := n1_
                     have BK119 := n2_
                     have HB := n3_
                     clear n0_ n1_ n2_ n3_
                     clear hb ho19
                     refine hK.out _ _ ⟨(blk_cell BK118.out 0).trans rfl, (blk_cell BK118.out 1).trans rfl, (blk_cell BK118.out 2).trans rfl, (blk_cell BK118.out 3).trans rfl⟩ (fun hHeld => ?_)
                     clear hK K
                     refine norm_ (a' := ?_) ?_ ?_
                     rotate_left
                     ·show Act.put _ (some 26) _ = _
                      simp only [Act.put, List.setIfInBounds_toArray, List.set_cons_zero, List.set_cons_succ, i64_w, i32_w]
                      rfl
                     exact norm_ (by first | (simp only [putAll, Act.put, List.setIfInBounds_toArray, List.set_cons_zero, List.set_cons_succ]; done) | (simp only [putAll, Act.put, List.setIfInBounds_toArray, List.set_cons_zero, List.set_cons_succ]; rfl)) (hJ14 (v128) _ ⟨hHeld, (by (with_reducible repeat (first | apply Kd.R_alloc | apply Kd.R_drewN | apply Kd.R_drew)); exact HO129.out), (bk BK118), (bk BK119), (bl HB)⟩)
                    ·skip
                     refine box_step ?hg (N := 7) ?hd (cs := #[.int .i64 0, .bool false, .slice none 0 0, .slice none 0 0]) (t := 61) ?hr ?_; (case hd => rfl); (case hg => rfl); (case hr => first | (go_simp; done) | (go_simp; rfl))
                     intro gb134 hg w18 hbox hb
                     have n0_ := Aside0.mk (blk_below (g := gb118) (o := .cells #[.int .i64 a0_0, .bool a0_1, .slice A0_2 l0_2.length c0_2, .slice A0_3 l0_3.length c0_3] 61 (0, 0)) (bk BK118) hb)
                     have n1_ := Aside0.mk (blk_below (g := gb119) (o := .cells #[.int .i64 0, .bool false, .slice none 0 0, .slice none 0 0] 61 (0, 0)) (bk BK119) hb)
                     have n2_ := Aside0.mk (below_step (bl HB) hb)
                     have n3_ := Aside0.mk (hbox)
                     have n4_ := (gz hg HB : Aside0 (w.heap.size ≤ gb134))
                     have n5_ := (gz hg HB : Aside0 (w.heap.size ≤ gb134))
                     have n6_ := Aside0.mk ((by rw [hg]; exact Nat.ne_of_lt (blk_lt (g := gb118) (o := .cells #[.int .i64 a0_0, .bool a0_1, .slice A0_2 l0_2.length c0_2, .slice A0_3 l0_3.length c0_3] 61 (0, 0)) (bk BK118)) : gb118 ≠ gb134))
                     have n7_ := Aside0.mk ((by rw [hg]; exact Nat.ne_of_gt (blk_lt (g := gb118) (o := .cells #[.int .i64 a0_0, .bool a0_1, .slice A0_2 l0_2.length c0_2, .slice A0_3 l0_3.length c0_3] 61 (0, 0)) (bk BK118)) : gb134 ≠ gb118))
                     have n8_ := Aside0.mk ((by rw [hg]; exact Nat.ne_of_lt (blk_lt (g := gb119) (o := .cells #[.int .i64 0, .bool false, .slice none 0 0, .slice none 0 0] 61 (0, 0)) (bk BK119)) : gb119 ≠ gb134))
                     have n9_ := Aside0.mk ((by rw [hg]; exact Nat.ne_of_gt (blk_lt (g := gb119) (o := .cells #[.int .i64 0, .bool false, .slice none 0 0, .slice none 0 0] 61 (0, 0)) (bk BK119)) : gb134 ≠ gb119))
                     clear BK118
                     clear BK119
                     clear HB
                     have BK118 := n0_
                     have BK119 := n1_
                     have HB := n2_
                     have BK134 := n3_
                     have GW134 := n4_
                     have GE134 := n5_
                     have NB118_134 := n6_
                     have NB134_118 := n7_
                     have NB119_134 := n8_
                     have NB134_119 := n9_
                     clear n0_ n1_ n2_ n3_ n4_ n5_ n6_ n7_ n8_ n9_
                     clear hb hbox hg
                     refine hK.out _ _ ⟨(blk_cell BK118.out 0).trans rfl, (blk_cell BK118.out 1).trans rfl, (blk_cell BK118.out 2).trans rfl, (blk_cell BK118.out 3).trans rfl⟩ (fun hHeld => ?_)
                     clear hK K
                     refine norm_ (a' := ?_) ?_ ?_
                     rotate_left
                     ·show Act.put _ (some 7) _ = _
                      simp only [Act.put, List.setIfInBounds_toArray, List.set_cons_zero, List.set_cons_succ, i64_w, i32_w]
                      rfl
                     exact norm_ (by first | (simp only [putAll, Act.put, List.setIfInBounds_toArray, List.set_cons_zero, List.set_cons_succ]; done) | (simp only [putAll, Act.put, List.setIfInBounds_toArray, List.set_cons_zero, List.set_cons_succ]; rfl)) (hJ25 (gb134) _ ⟨hHeld, (bk BK118), (bk BK119), (bk BK134), GW134.out, GE134.out, NB118_134.out, NB134_118.out, NB119_134.out, NB134_119.out, (bl HB)⟩)
                   ·skip
                    rintro gb134 w19 ⟨hS_, h0_, h1_, h2_, h3_, h4_, h5_, h6_, h7_, h8_, h9_⟩
                    have n0_ : Aside0 (w19.heap[gb118]? = some (.cells #[.int .i64 a0_0, .bool a0_1, .slice A0_2 l0_2.length c0_2, .slice A0_3 l0_3.length c0_3] 61 (0, 0))) := ⟨h0_⟩
                    have n1_ : Aside0 (w19.heap[gb119]? = some (.cells #[.int .i64 0, .bool false, .slice none 0 0, .slice none 0 0] 61 (0, 0))) := ⟨h1_⟩
                    have n2_ : Aside0 (w19.heap[gb134]? = some (.cells #[.int .i64 0, .bool false, .slice none 0 0, .slice none 0 0] 61 (0, 0))) := ⟨h2_⟩
                    have n3_ : Aside0 (w.heap.size ≤ gb134) := ⟨h3_⟩
                    have n4_ : Aside0 (w.heap.size ≤ gb134) := ⟨h4_⟩
                    have n5_ : Aside0 (gb118 ≠ gb134) := ⟨h5_⟩
                    have n6_ : Aside0 (gb134 ≠ gb118) := ⟨h6_⟩
                    have n7_ : Aside0 (gb119 ≠ gb134) := ⟨h7_⟩
                    have n8_ : Aside0 (gb134 ≠ gb119) := ⟨h8_⟩
                    have n9_ : Aside0 (Below w.heap.size w w19) := ⟨h9_⟩
                    clear BK118
                    clear BK119
                    clear HB
                    clear h0_ h1_ h2_ h3_ h4_ h5_ h6_ h7_ h8_ h9_
                    have BK118 := n0_
                    have BK119 := n1_
                    have BK134 := n2_
                    have GW134 := n3_
                    have GE134 := n4_
                    have NB118_134 := n5_
                    have NB134_118 := n6_
                    have NB119_134 := n7_
                    have NB134_119 := n8_
                    have HB := n9_
                    clear n0_ n1_ n2_ n3_ n4_ n5_ n6_ n7_ n8_ n9_
                    have hHeld : w19.cell? ⟨gb118, 0, none⟩ = some (.int .i64 a0_0) ∧ w19.cell? ⟨gb118, 1, none⟩ = some (.bool a0_1) ∧ w19.cell? ⟨gb118, 2, none⟩ = some (.slice A0_2 l0_2.length c0_2) ∧ w19.cell? ⟨gb118, 3, none⟩ = some (.slice A0_3 l0_3.length c0_3) := hS_
                    refine norm_ (a' := ?_) ?_ ?_
                    rotate_left
                    ·simp only [putAll, Act.put, List.setIfInBounds_toArray, List.set_cons_zero, List.set_cons_succ]
                     rfl
                    refine two_ (i := 4) (j := 14) (Ni := some 16) (Nj := some 26) (mk 27 41918463) (mk 27 41934831) rfl rfl rfl rfl (two_of HT_.out (by kernel_rfl)) (by decide) (by decide) (fun K hK => ?_) (fun K hK => ?_)
                    ·skip
                     refine Kd.R_lit_step (Kd.int .u32) _ 145 ?hg (N := 16) ?hd (xs := ([] : List Int)) (inner := []) (ok := fun _ => True) (okp := fun _ => True) ?hr ?hp (fun _ hk => hk) trivial (Below.refl _ _) (Nat.le_refl _) (by simp) ?_; (case hd => rfl); (case hg => rfl); (case hr => first | (go_simp; done) | (go_simp; rfl)); (case hp => exact (Reps.none _ _))
                     intro v121 w20 ho21 hb hg_ hnew_
                     clear hg_ hnew_
                     (first | rw [← Ny120.out] at ho21 | (simp only [Int.reduceToNat] at ho21; rw [← Ny120.out] at ho21))
                     have n0_ := Aside0.mk (Kd.R_lower ho21 (below_size (bl HB)))
                     have n1_ := Aside0.mk (blk_below (g := gb118) (o := .cells #[.int .i64 a0_0, .bool a0_1, .slice A0_2 l0_2.length c0_2, .slice A0_3 l0_3.length c0_3] 61 (0, 0)) (bk BK118) hb)
                     have n2_ := Aside0.mk (blk_below (g := gb119) (o := .cells #[.int .i64 0, .bool false, .slice none 0 0, .slice none 0 0] 61 (0, 0)) (bk BK119) hb)
                     have n3_ := Aside0.mk (blk_below (g := gb134) (o := .cells #[.int .i64 0, .bool false, .slice none 0 0, .slice none 0 0] 61 (0, 0)) (bk BK134) hb)
                     have n4_ := Aside0.mk (below_step (bl HB) hb)
                     clear BK118
                     clear BK119
                     clear BK134
                     clear HB
                     have HO122 := n0_
                     have BK118 := n1_
                     have BK119 := n2_
                     have BK134 := n3_
                     have HB := n4_
                     clear n0_ n1_ n2_ n3_ n4_
                     clear hb ho21
                     refine hK.out _ _ ⟨(blk_cell BK118.out 0).trans rfl, (blk_cell BK118.out 1).trans rfl, (blk_cell BK118.out 2).trans rfl, (blk_cell BK118.out 3).trans rfl⟩ (fun hHeld => ?_)
                     clear hK K
                     refine norm_ (a' := ?_) ?_ ?_
                     rotate_left
                     ·show Act.put _ (some 16) _ = _
                      simp only [Act.put, List.setIfInBounds_toArray, List.set_cons_zero, List.set_cons_succ, i64_w, i32_w]
                      rfl
                     exact norm_ (by first | (simp only [putAll, Act.put, List.setIfInBounds_toArray, List.set_cons_zero, List.set_cons_succ]; done) | (simp only [putAll, Act.put, List.setIfInBounds_toArray, List.set_cons_zero, List.set_cons_succ]; rfl)) (hJ4_25 (v121, gb134) _ ⟨hHeld, (by (with_reducible repeat (first | apply Kd.R_alloc | apply Kd.R_drewN | apply Kd.R_drew)); exact HO122.out), (bk BK118), (bk BK119), (bk BK134), GW134.out, GE134.out, NB118_134.out, NB134_118.out, NB119_134.out, NB134_119.out, (bl HB)⟩)
                    ·skip
                     refine Kd.R_lit_step (Kd.int .u32) _ 145 ?hg (N := 26) ?hd (xs := ([] : List Int)) (inner := []) (ok := fun _ => True) (okp := fun _ => True) ?hr ?hp (fun _ hk => hk) trivial (Below.refl _ _) (Nat.le_refl _) (by simp) ?_; (case hd => rfl); (case hg => rfl); (case hr => first | (go_simp; done) | (go_simp; rfl)); (case hp => exact (Reps.none _ _))
                     intro v128 w20 ho21 hb hg_ hnew_
                     clear hg_ hnew_
                     (first | rw [← Ny127.out] at ho21 | (simp only [Int.reduceToNat] at ho21; rw [← Ny127.out] at ho21))
                     have n0_ := Aside0.mk (Kd.R_lower ho21 (below_size (bl HB)))
                     have n1_ := Aside0.mk (blk_below (g := gb118) (o := .cells #[.int .i64 a0_0, .bool a0_1, .slice A0_2 l0_2.length c0_2, .slice A0_3 l0_3.length c0_3] 61 (0, 0)) (bk BK118) hb)
                     have n2_ := Aside0.mk (blk_below (g := gb119) (o := .cells #[.int .i64 0, .bool false, .slice none 0 0, .slice none 0 0] 61 (0, 0)) (bk BK119) hb)
                     have n3_ := Aside0.mk (blk_below (g := gb134) (o := .cells #[.int .i64 0, .bool false, .slice none 0 0, .slice none 0 0] 61 (0, 0)) (bk BK134) hb)
                     have n4_ := Aside0.mk (below_step (bl HB) hb)
                     clear BK118
                     clear BK119
                     clear BK134
                     clear HB
                     have HO129 := n0_
                     have BK118 := n1_
                     have BK119 := n2_
                     have BK134 := n3_
                     have HB := n4_
                     clear n0_ n1_ n2_ n3_ n4_
                     clear hb ho21
                     refine hK.out _ _ ⟨(blk_cell BK118.out 0).trans rfl, (blk_cell BK118.out 1).trans rfl, (blk_cell BK118.out 2).trans rfl, (blk_cell BK118.out 3).trans rfl⟩ (fun hHeld => ?_)
                     clear hK K
                     refine norm_ (a' := ?_) ?_ ?_
                     rotate_left
                     ·show Act.put _ (some 26) _ = _
                      simp only [Act.put, List.setIfInBounds_toArray, List.set_cons_zero, List.set_cons_succ, i64_w, i32_w]
                      rfl
                     exact norm_ (by first | (simp only [putAll, Act.put, List.setIfInBounds_toArray, List.set_cons_zero, List.set_cons_succ]; done) | (simp only [putAll, Act.put, List.setIfInBounds_toArray, List.set_cons_zero, List.set_cons_succ]; rfl)) (hJ14_25 (v128, gb134) _ ⟨hHeld, (by (with_reducible repeat (first | apply Kd.R_alloc | apply Kd.R_drewN | apply Kd.R_drew)); exact HO129.out), (bk BK118), (bk BK119), (bk BK134), GW134.out, GE134.out, NB118_134.out, NB134_118.out, NB119_134.out, NB134_119.out, (bl HB)⟩)
                  ·skip
                   rintro v128 w20 ⟨hS_, h0_, h1_, h2_, h3_⟩
                   have n0_ : Aside0 (Kd.R (Kd.int .u32) 145 w20 w.heap.size (fun _ => True) v128 y127) := ⟨h0_⟩
                   have n1_ : Aside0 (w20.heap[gb118]? = some (.cells #[.int .i64 a0_0, .bool a0_1, .slice A0_2 l0_2.length c0_2, .slice A0_3 l0_3.length c0_3] 61 (0, 0))) := ⟨h1_⟩
                   have n2_ : Aside0 (w20.heap[gb119]? = some (.cells #[.int .i64 0, .bool false, .slice none 0 0, .slice none 0 0] 61 (0, 0))) := ⟨h2_⟩
                   have n3_ : Aside0 (Below w.heap.size w w20) := ⟨h3_⟩
                   clear BK118
                   clear BK119
                   clear HB
                   clear h0_ h1_ h2_ h3_
                   have HO129 := n0_
                   have BK118 := n1_
                   have BK119 := n2_
                   have HB := n3_
                   clear n0_ n1_ n2_ n3_
                   have hHeld : w20.cell? ⟨gb118, 0, none⟩ = some (.int .i64 a0_0) ∧ w20.cell? ⟨gb118, 1, none⟩ = some (.bool a0_1) ∧ w20.cell? ⟨gb118, 2, none⟩ = some (.slice A0_2 l0_2.length c0_2) ∧ w20.cell? ⟨gb118, 3, none⟩ = some (.slice A0_3 l0_3.length c0_3) := hS_
                   refine norm_ (a' := ?_) ?_ ?_
                   rotate_left
                   ·simp only [putAll, Act.put, List.setIfInBounds_toArray, List.set_cons_zero, List.set_cons_succ]
                    rfl
                   refine two_ (i := 4) (j := 25) (Ni := some 16) (Nj := some 7) (mk 27 8380415) (mk 27 41934831) rfl rfl rfl rfl (two_of HT_.out (by kernel_rfl)) (by decide) (by decide) (fun K hK => ?_) (fun K hK => ?_)
                   ·skip
                    refine Kd.R_lit_step (Kd.int .u32) _ 145 ?hg (N := 16) ?hd (xs := ([] : List Int)) (inner := []) (ok := fun _ => True) (okp := fun _ => True) ?hr ?hp (fun _ hk => hk) trivial (Below.refl _ _) (Nat.le_refl _) (by simp) ?_; (case hd => rfl); (case hg => rfl); (case hr => first | (go_simp; done) | (go_simp; rfl)); (case hp => exact (Reps.none _ _))
                    intro v121 w21 ho22 hb hg_ hnew_
                    clear hg_ hnew_
                    (first | rw [← Ny120.out] at ho22 | (simp only [Int.reduceToNat] at ho22; rw [← Ny120.out] at ho22))
                    have n0_ := Aside0.mk (Kd.R_elder' (by (with_reducible repeat (first | apply Kd.R_alloc | apply Kd.R_drewN | apply Kd.R_drew)); exact HO129.out) (Kd.R_base ho22) hb)
                    have n1_ := Aside0.mk (Kd.R_lower (Kd.R_new' ho22 (Kd.R_lt (by (with_reducible repeat (first | apply Kd.R_alloc | apply Kd.R_drewN | apply Kd.R_drew)); exact HO129.out))) (below_size (bl HB)))
                    have n2_ := Aside0.mk (blk_below (g := gb118) (o := .cells #[.int .i64 a0_0, .bool a0_1, .slice A0_2 l0_2.length c0_2, .slice A0_3 l0_3.length c0_3] 61 (0, 0)) (bk BK118) hb)
                    have n3_ := Aside0.mk (blk_below (g := gb119) (o := .cells #[.int .i64 0, .bool false, .slice none 0 0, .slice none 0 0] 61 (0, 0)) (bk BK119) hb)
                    have n4_ := Aside0.mk (below_step (bl HB) hb)
                    clear HO129
                    clear BK118
                    clear BK119
                    clear HB
                    have HO129 := n0_
                    have HO122 := n1_
                    have BK118 := n2_
                    have BK119 := n3_
                    have HB := n4_
                    clear n0_ n1_ n2_ n3_ n4_
                    clear hb ho22
                    refine hK.out _ _ ⟨(blk_cell BK118.out 0).trans rfl, (blk_cell BK118.out 1).trans rfl, (blk_cell BK118.out 2).trans rfl, (blk_cell BK118.out 3).trans rfl⟩ (fun hHeld => ?_)
                    clear hK K
                    refine norm_ (a' := ?_) ?_ ?_
                    rotate_left
                    ·show Act.put _ (some 16) _ = _
                     simp only [Act.put, List.setIfInBounds_toArray, List.set_cons_zero, List.set_cons_succ, i64_w, i32_w]
                     rfl
                    exact norm_ (by first | (simp only [putAll, Act.put, List.setIfInBounds_toArray, List.set_cons_zero, List.set_cons_succ]; done) | (simp only [putAll, Act.put, List.setIfInBounds_toArray, List.set_cons_zero, List.set_cons_succ]; rfl)) (hJ4_14 (v121, v128) _ ⟨hHeld, (by (with_reducible repeat (first | apply Kd.R_alloc | apply Kd.R_drewN | apply Kd.R_drew)); exact Kd.R_mono HO122.out (fun _ hk => hk.2)), (by (with_reducible repeat (first | apply Kd.R_alloc | apply Kd.R_drewN | apply Kd.R_drew)); exact Kd.R_mono HO129.out (fun _ hk => hk.2)), (bk BK118), (bk BK119), (bl HB)⟩)
                   ·skip
                    refine box_step ?hg (N := 7) ?hd (cs := #[.int .i64 0, .bool false, .slice none 0 0, .slice none 0 0]) (t := 61) ?hr ?_; (case hd => rfl); (case hg => rfl); (case hr => first | (go_simp; done) | (go_simp; rfl))
                    intro gb134 hg w21 hbox hb
                    have n0_ := Aside0.mk (Kd.R_below (by (with_reducible repeat (first | apply Kd.R_alloc | apply Kd.R_drewN | apply Kd.R_drew)); exact HO129.out) hb)
                    have n1_ := Aside0.mk (blk_below (g := gb118) (o := .cells #[.int .i64 a0_0, .bool a0_1, .slice A0_2 l0_2.length c0_2, .slice A0_3 l0_3.length c0_3] 61 (0, 0)) (bk BK118) hb)
                    have n2_ := Aside0.mk (blk_below (g := gb119) (o := .cells #[.int .i64 0, .bool false, .slice none 0 0, .slice none 0 0] 61 (0, 0)) (bk BK119) hb)
                    have n3_ := Aside0.mk (below_step (bl HB) hb)
                    have n4_ := Aside0.mk (hbox)
                    have n5_ := (gz hg HB : Aside0 (w.heap.size ≤ gb134))
                    have n6_ := (gz hg HB : Aside0 (w.heap.size ≤ gb134))
                    have n7_ := Aside0.mk ((by rw [hg]; exact Nat.ne_of_lt (blk_lt (g := gb118) (o := .cells #[.int .i64 a0_0, .bool a0_1, .slice A0_2 l0_2.length c0_2, .slice A0_3 l0_3.length c0_3] 61 (0, 0)) (bk BK118)) : gb118 ≠ gb134))
                    have n8_ := Aside0.mk ((by rw [hg]; exact Nat.ne_of_gt (blk_lt (g := gb118) (o := .cells #[.int .i64 a0_0, .bool a0_1, .slice A0_2 l0_2.length c0_2, .slice A0_3 l0_3.length c0_3] 61 (0, 0)) (bk BK118)) : gb134 ≠ gb118))
                    have n9_ := Aside0.mk ((by rw [hg]; exact Nat.ne_of_lt (blk_lt (g := gb119) (o := .cells #[.int .i64 0, .bool false, .slice none 0 0, .slice none 0 0] 61 (0, 0)) (bk BK119)) : gb119 ≠ gb134))
                    have n10_ := Aside0.mk ((by rw [hg]; exact Nat.ne_of_gt (blk_lt (g := gb119) (o := .cells #[.int .i64 0, .bool false, .slice none 0 0, .slice none 0 0] 61 (0, 0)) (bk BK119)) : gb134 ≠ gb119))
                    clear HO129
                    clear BK118
                    clear BK119
                    clear HB
                    have HO129 := n0_
                    have BK118 := n1_
                    have BK119 := n2_
                    have HB := n3_
                    have BK134 := n4_
                    have GW134 := n5_
                    have GE134 := n6_
                    have NB118_134 := n7_
                    have NB134_118 := n8_
                    have NB119_134 := n9_
                    have NB134_119 := n10_
                    clear n0_ n1_ n2_ n3_ n4_ n5_ n6_ n7_ n8_ n9_ n10_
                    clear hb hbox hg
                    refine hK.out _ _ ⟨(blk_cell BK118.out 0).trans rfl, (blk_cell BK118.out 1).trans rfl, (blk_cell BK118.out 2).trans rfl, (blk_cell BK118.out 3).trans rfl⟩ (fun hHeld => ?_)
                    clear hK K
                    refine norm_ (a' := ?_) ?_ ?_
                    rotate_left
                    ·show Act.put _ (some 7) _ = _
                     simp only [Act.put, List.setIfInBounds_toArray, List.set_cons_zero, List.set_cons_succ, i64_w, i32_w]
                     rfl
                    exact norm_ (by first | (simp only [putAll, Act.put, List.setIfInBounds_toArray, List.set_cons_zero, List.set_cons_succ]; done) | (simp only [putAll, Act.put, List.setIfInBounds_toArray, List.set_cons_zero, List.set_cons_succ]; rfl)) (hJ14_25 (v128, gb134) _ ⟨hHeld, (by (with_reducible repeat (first | apply Kd.R_alloc | apply Kd.R_drewN | apply Kd.R_drew)); exact HO129.out), (bk BK118), (bk BK119), (bk BK134), GW134.out, GE134.out, NB118_134.out, NB134_118.out, NB119_134.out, NB134_119.out, (bl HB)⟩)
                 ·skip
                  rintro v121 w20 ⟨hS_, h0_, h1_, h2_, h3_⟩
                  have n0_ : Aside0 (Kd.R (Kd.int .u32) 145 w20 w.heap.size (fun _ => True) v121 y120) := ⟨h0_⟩
                  have n1_ : Aside0 (w20.heap[gb118]? = some (.cells #[.int .i64 a0_0, .bool a0_1, .slice A0_2 l0_2.length c0_2, .slice A0_3 l0_3.length c0_3] 61 (0, 0))) := ⟨h1_⟩
                  have n2_ : Aside0 (w20.heap[gb119]? = some (.cells #[.int .i64 0, .bool false, .slice none 0 0, .slice none 0 0] 61 (0, 0))) := ⟨h2_⟩
                  have n3_ : Aside0 (Below w.heap.size w w20) := ⟨h3_⟩
                  clear BK118
                  clear BK119
                  clear HB
                  clear h0_ h1_ h2_ h3_
                  have HO122 := n0_
                  have BK118 := n1_
                  have BK119 := n2_
                  have HB := n3_
                  clear n0_ n1_ n2_ n3_
                  have hHeld : w20.cell? ⟨gb118, 0, none⟩ = some (.int .i64 a0_0) ∧ w20.cell? ⟨gb118, 1, none⟩ = some (.bool a0_1) ∧ w20.cell? ⟨gb118, 2, none⟩ = some (.slice A0_2 l0_2.length c0_2) ∧ w20.cell? ⟨gb118, 3, none⟩ = some (.slice A0_3 l0_3.length c0_3) := hS_
                  refine norm_ (a' := ?_) ?_ ?_
                  rotate_left
                  ·simp only [putAll, Act.put, List.setIfInBounds_toArray, List.set_cons_zero, List.set_cons_succ]
                   rfl
                  refine three_ (i := 13) (j := 14) (k := 25) (Ni := some 25) (Nj := some 26) (Nk := some 7) (mk 27 8372223) (mk 27 8380415) (mk 27 41918463) rfl rfl rfl rfl rfl rfl (three_of HT_.out (by kernel_rfl)) (by decide) (by decide) (by decide) (fun K hK => ?_) (fun K hK => ?_) (fun K hK => ?_)
                  ·skip
                   refine Kd.R_append_rows_step (Kd.int .u32) (w0 := w) w.heap.size (by rfl) (.tmp 16) (.tmp 24) 59 145 (.int .u32 0) 4 rfl Tryz.underlying59 info145 rfl (by decide) (by omega) v121 y120 (l0_2.take ((ji5) : Int).toNat) _ _ _ (fun _ => True) (fun _ => False) rfl rfl ?aO ?aR (fun _ _ h => h) (fun _ h => h.elim) ?aF ?aB ?aS ?aL ?_
                   (case aR => first | (have hr_ := HR123.out; rw [show (l0_2.take ((ji5) : Int).toNat).length = (ji5).toNat from (by rw [List.length_take]; have h_ : ((ji5) : Int) ≤ (l0_2.length : Int) := oa; omega)] at hr_; repeat (first | exact (Kd.C_below hr_ HB.out) | (with_reducible refine Kd.C_alloc ?_ _) | (with_reducible refine Kd.C_drewN ?_ _) | (with_reducible refine Kd.C_drew ?_)); done) | (repeat (first | exact (Kd.C_below HR123.out HB.out) | (with_reducible refine Kd.C_alloc ?_ _) | (with_reducible refine Kd.C_drewN ?_ _) | (with_reducible refine Kd.C_drew ?_))))
                   (case aB => exact (bl HB))
                   (case aF => exact (fun _ _ => trivial))
                   (case aO => exact (by (with_reducible repeat (first | apply Kd.R_alloc | apply Kd.R_drewN | apply Kd.R_drew)); exact HO122.out))
                   (case aS => exact (below_size (bl HB)))
                   (case aL => have := LMc8.out; have hlx_ := (show (l0_2.take ((ji5) : Int).toNat).length = (ji5).toNat from (by rw [List.length_take]; have h_ : ((ji5) : Int) ≤ (l0_2.length : Int) := oa; omega)); omega)
                   intro v125 w21 ho hb hg hat
                   rw [← Ny124.out] at ho
                   have n0_ := Aside0.mk (blk_grown (g := gb118) (o := .cells #[.int .i64 a0_0, .bool a0_1, .slice A0_2 l0_2.length c0_2, .slice A0_3 l0_3.length c0_3] 61 (0, 0)) (bk BK118) hg (Kd.R_ne HO122.out BK118.out (by decide)))
                   have n1_ := Aside0.mk (blk_grown (g := gb119) (o := .cells #[.int .i64 0, .bool false, .slice none 0 0, .slice none 0 0] 61 (0, 0)) (bk BK119) hg (Kd.R_ne HO122.out BK119.out (by decide)))
                   have n2_ := Aside0.mk (hb)
                   have n3_ := Aside0.mk (ho)
                   clear BK118
                   clear BK119
                   clear HB
                   clear HO122
                   have BK118 := n0_
                   have BK119 := n1_
                   have HB := n2_
                   have HO126 := n3_
                   clear n0_ n1_ n2_ n3_
                   clear ho hb hg hat
                   refine hK.out _ _ ⟨(blk_cell BK118.out 0).trans rfl, (blk_cell BK118.out 1).trans rfl, (blk_cell BK118.out 2).trans rfl, (blk_cell BK118.out 3).trans rfl⟩ (fun hHeld => ?_)
                   clear hK K
                   refine norm_ (a' := ?_) ?_ ?_
                   rotate_left
                   ·show Act.put _ (some 25) _ = _
                    simp only [Act.put, List.setIfInBounds_toArray, List.set_cons_zero, List.set_cons_succ, i64_w, i32_w]
                    rfl
                   exact norm_ (by first | (simp only [putAll, Act.put, List.setIfInBounds_toArray, List.set_cons_zero, List.set_cons_succ]; done) | (simp only [putAll, Act.put, List.setIfInBounds_toArray, List.set_cons_zero, List.set_cons_succ]; rfl)) (hJ4_13 (v121, v125) _ ⟨hHeld, (by (with_reducible repeat (first | apply Kd.R_alloc | apply Kd.R_drewN | apply Kd.R_drew)); exact HO126.out), (bk BK118), (bk BK119), (bl HB)⟩)
                  ·skip
                   refine Kd.R_lit_step (Kd.int .u32) _ 145 ?hg (N := 26) ?hd (xs := ([] : List Int)) (inner := []) (ok := fun _ => True) (okp := fun _ => True) ?hr ?hp (fun _ hk => hk) trivial (Below.refl _ _) (Nat.le_refl _) (by simp) ?_; (case hd => rfl); (case hg => rfl); (case hr => first | (go_simp; done) | (go_simp; rfl)); (case hp => exact (Reps.none _ _))
                   intro v128 w21 ho22 hb hg_ hnew_
                   clear hg_ hnew_
                   (first | rw [← Ny127.out] at ho22 | (simp only [Int.reduceToNat] at ho22; rw [← Ny127.out] at ho22))
                   have n0_ := Aside0.mk (Kd.R_elder' (by (with_reducible repeat (first | apply Kd.R_alloc | apply Kd.R_drewN | apply Kd.R_drew)); exact HO122.out) (Kd.R_base ho22) hb)
                   have n1_ := Aside0.mk (Kd.R_lower (Kd.R_new' ho22 (Kd.R_lt (by (with_reducible repeat (first | apply Kd.R_alloc | apply Kd.R_drewN | apply Kd.R_drew)); exact HO122.out))) (below_size (bl HB)))
                   have n2_ := Aside0.mk (blk_below (g := gb118) (o := .cells #[.int .i64 a0_0, .bool a0_1, .slice A0_2 l0_2.length c0_2, .slice A0_3 l0_3.length c0_3] 61 (0, 0)) (bk BK118) hb)
                   have n3_ := Aside0.mk (blk_below (g := gb119) (o := .cells #[.int .i64 0, .bool false, .slice none 0 0, .slice none 0 0] 61 (0, 0)) (bk BK119) hb)
                   have n4_ := Aside0.mk (below_step (bl HB) hb)
                   clear HO122
                   clear BK118
                   clear BK119
                   clear HB
                   have HO122 := n0_
                   have HO129 := n1_
                   have BK118 := n2_
                   have BK119 := n3_
                   have HB := n4_
                   clear n0_ n1_ n2_ n3_ n4_
                   clear hb ho22
                   refine hK.out _ _ ⟨(blk_cell BK118.out 0).trans rfl, (blk_cell BK118.out 1).trans rfl, (blk_cell BK118.out 2).trans rfl, (blk_cell BK118.out 3).trans rfl⟩ (fun hHeld => ?_)
                   clear hK K
                   refine norm_ (a' := ?_) ?_ ?_
                   rotate_left
                   ·show Act.put _ (some 26) _ = _
                    simp only [Act.put, List.setIfInBounds_toArray, List.set_cons_zero, List.set_cons_succ, i64_w, i32_w]
                    rfl
                   exact norm_ (by first | (simp only [putAll, Act.put, List.setIfInBounds_toArray, List.set_cons_zero, List.set_cons_succ]; done) | (simp only [putAll, Act.put, List.setIfInBounds_toArray, List.set_cons_zero, List.set_cons_succ]; rfl)) (hJ4_14 (v121, v128) _ ⟨hHeld, (by (with_reducible repeat (first | apply Kd.R_alloc | apply Kd.R_drewN | apply Kd.R_drew)); exact Kd.R_mono HO122.out (fun _ hk => hk.2)), (by (with_reducible repeat (first | apply Kd.R_alloc | apply Kd.R_drewN | apply Kd.R_drew)); exact Kd.R_mono HO129.out (fun _ hk => hk.2)), (bk BK118), (bk BK119), (bl HB)⟩)
                  ·skip
                   refine box_step ?hg (N := 7) ?hd (cs := #[.int .i64 0, .bool false, .slice none 0 0, .slice none 0 0]) (t := 61) ?hr ?_; (case hd => rfl); (case hg => rfl); (case hr => first | (go_simp; done) | (go_simp; rfl))
                   intro gb134 hg w21 hbox hb
                   have n0_ := Aside0.mk (Kd.R_below (by (with_reducible repeat (first | apply Kd.R_alloc | apply Kd.R_drewN | apply Kd.R_drew)); exact HO122.out) hb)
                   have n1_ := Aside0.mk (blk_below (g := gb118) (o := .cells #[.int .i64 a0_0, .bool a0_1, .slice A0_2 l0_2.length c0_2, .slice A0_3 l0_3.length c0_3] 61 (0, 0)) (bk BK118) hb)
                   have n2_ := Aside0.mk (blk_below (g := gb119) (o := .cells #[.int .i64 0, .bool false, .slice none 0 0, .slice none 0 0] 61 (0, 0)) (bk BK119) hb)
                   have n3_ := Aside0.mk (below_step (bl HB) hb)
                   have n4_ := Aside0.mk (hbox)
                   have n5_ := (gz hg HB : Aside0 (w.heap.size ≤ gb134))
                   have n6_ := (gz hg HB : Aside0 (w.heap.size ≤ gb134))
                   have n7_ := Aside0.mk ((by rw [hg]; exact Nat.ne_of_lt (blk_lt (g := gb118) (o := .cells #[.int .i64 a0_0, .bool a0_1, .slice A0_2 l0_2.length c0_2, .slice A0_3 l0_3.length c0_3] 61 (0, 0)) (bk BK118)) : gb118 ≠ gb134))
                   have n8_ := Aside0.mk ((by rw [hg]; exact Nat.ne_of_gt (blk_lt (g := gb118) (o := .cells #[.int .i64 a0_0, .bool a0_1, .slice A0_2 l0_2.length c0_2, .slice A0_3 l0_3.length c0_3] 61 (0, 0)) (bk BK118)) : gb134 ≠ gb118))
                   have n9_ := Aside0.mk ((by rw [hg]; exact Nat.ne_of_lt (blk_lt (g := gb119) (o := .cells #[.int .i64 0, .bool false, .slice none 0 0, .slice none 0 0] 61 (0, 0)) (bk BK119)) : gb119 ≠ gb134))
                   have n10_ := Aside0.mk ((by rw [hg]; exact Nat.ne_of_gt (blk_lt (g := gb119) (o := .cells #[.int .i64 0, .bool false, .slice none 0 0, .slice none 0 0] 61 (0, 0)) (bk BK119)) : gb134 ≠ gb119))
                   clear HO122
                   clear BK118
                   clear BK119
                   clear HB
                   have HO122 := n0_
                   have BK118 := n1_
                   have BK119 := n2_
                   have HB := n3_
                   have BK134 := n4_
                   have GW134 := n5_
                   have GE134 := n6_
                   have NB118_134 := n7_
                   have NB134_118 := n8_
                   have NB119_134 := n9_
                   have NB134_119 := n10_
                   clear n0_ n1_ n2_ n3_ n4_ n5_ n6_ n7_ n8_ n9_ n10_
                   clear hb hbox hg
                   refine hK.out _ _ ⟨(blk_cell BK118.out 0).trans rfl, (blk_cell BK118.out 1).trans rfl, (blk_cell BK118.out 2).trans rfl, (blk_cell BK118.out 3).trans rfl⟩ (fun hHeld => ?_)
                   clear hK K
                   refine norm_ (a' := ?_) ?_ ?_
                   rotate_left
                   ·show Act.put _ (some 7) _ = _
                    simp only [Act.put, List.setIfInBounds_toArray, List.set_cons_zero, List.set_cons_succ, i64_w, i32_w]
                    rfl
                   exact norm_ (by first | (simp only [putAll, Act.put, List.setIfInBounds_toArray, List.set_cons_zero, List.set_cons_succ]; done) | (simp only [putAll, Act.put, List.setIfInBounds_toArray, List.set_cons_zero, List.set_cons_succ]; rfl)) (hJ4_25 (v121, gb134) _ ⟨hHeld, (by (with_reducible repeat (first | apply Kd.R_alloc | apply Kd.R_drewN | apply Kd.R_drew)); exact HO122.out), (bk BK118), (bk BK119), (bk BK134), GW134.out, GE134.out, NB118_134.out, NB134_118.out, NB119_134.out, NB134_119.out, (bl HB)⟩)
                ·skip
                 rintro ⟨v128, gb134⟩ w21 ⟨hS_, h0_, h1_, h2_, h3_, h4_, h5_, h6_, h7_, h8_, h9_, h10_⟩
                 have n0_ : Aside0 (Kd.R (Kd.int .u32) 145 w21 w.heap.size (fun _ => True) v128 y127) := ⟨h0_⟩
                 have n1_ : Aside0 (w21.heap[gb118]? = some (.cells #[.int .i64 a0_0, .bool a0_1, .slice A0_2 l0_2.length c0_2, .slice A0_3 l0_3.length c0_3] 61 (0, 0))) := ⟨h1_⟩
                 have n2_ : Aside0 (w21.heap[gb119]? = some (.cells #[.int .i64 0, .bool false, .slice none 0 0, .slice none 0 0] 61 (0, 0))) := ⟨h2_⟩
                 have n3_ : Aside0 (w21.heap[gb134]? = some (.cells #[.int .i64 0, .bool false, .slice none 0 0, .slice none 0 0] 61 (0, 0))) := ⟨h3_⟩
                 have n4_ : Aside0 (w.heap.size ≤ gb134) := ⟨h4_⟩
                 have n5_ : Aside0 (w.heap.size ≤ gb134) := ⟨h5_⟩
                 have n6_ : Aside0 (gb118 ≠ gb134) := ⟨h6_⟩
                 have n7_ : Aside0 (gb134 ≠ gb118) := ⟨h7_⟩
                 have n8_ : Aside0 (gb119 ≠ gb134) := ⟨h8_⟩
                 have n9_ : Aside0 (gb134 ≠ gb119) := ⟨h9_⟩
                 have n10_ : Aside0 (Below w.heap.size w w21) := ⟨h10_⟩
                 clear BK118
                 clear BK119
                 clear HB
                 clear h0_ h1_ h2_ h3_ h4_ h5_ h6_ h7_ h8_ h9_ h10_
                 have HO129 := n0_
                 have BK118 := n1_
                 have BK119 := n2_
                 have BK134 := n3_
                 have GW134 := n4_
                 have GE134 := n5_
                 have NB118_134 := n6_
                 have NB134_118 := n7_
                 have NB119_134 := n8_
                 have NB134_119 := n9_
                 have HB := n10_
                 clear n0_ n1_ n2_ n3_ n4_ n5_ n6_ n7_ n8_ n9_ n10_
                 have hHeld : w21.cell? ⟨gb118, 0, none⟩ = some (.int .i64 a0_0) ∧ w21.cell? ⟨gb118, 1, none⟩ = some (.bool a0_1) ∧ w21.cell? ⟨gb118, 2, none⟩ = some (.slice A0_2 l0_2.length c0_2) ∧ w21.cell? ⟨gb118, 3, none⟩ = some (.slice A0_3 l0_3.length c0_3) := hS_
                 refine norm_ (a' := ?_) ?_ ?_
                 rotate_left
                 ·simp only [putAll, Act.put, List.setIfInBounds_toArray, List.set_cons_zero, List.set_cons_succ]
                  rfl
                 refine one_ (i := 4) (N := some 16) (mk 27 41934847) rfl rfl (one_of HT_.out (by kernel_rfl)) (by decide) (fun K hK => ?_)
                 refine Kd.R_lit_step (Kd.int .u32) _ 145 ?hg (N := 16) ?hd (xs := ([] : List Int)) (inner := []) (ok := fun _ => True) (okp := fun _ => True) ?hr ?hp (fun _ hk => hk) trivial (Below.refl _ _) (Nat.le_refl _) (by simp) ?_; (case hd => rfl); (case hg => rfl); (case hr => first | (go_simp; done) | (go_simp; rfl)); (case hp => exact (Reps.none _ _))
                 intro v121 w22 ho23 hb hg_ hnew_
                 clear hg_ hnew_
                 (first | rw [← Ny120.out] at ho23 | (simp only [Int.reduceToNat] at ho23; rw [← Ny120.out] at ho23))
                 have n0_ := Aside0.mk (Kd.R_elder' (by (with_reducible repeat (first | apply Kd.R_alloc | apply Kd.R_drewN | apply Kd.R_drew)); exact HO129.out) (Kd.R_base ho23) hb)
                 have n1_ := Aside0.mk (Kd.R_lower (Kd.R_new' ho23 (Kd.R_lt (by (with_reducible repeat (first | apply Kd.R_alloc | apply Kd.R_drewN | apply Kd.R_drew)); exact HO129.out))) (below_size (bl HB)))
                 have n2_ := Aside0.mk (blk_below (g := gb118) (o := .cells #[.int .i64 a0_0, .bool a0_1, .slice A0_2 l0_2.length c0_2, .slice A0_3 l0_3.length c0_3] 61 (0, 0)) (bk BK118) hb)
                 have n3_ := Aside0.mk (blk_below (g := gb119) (o := .cells #[.int .i64 0, .bool false, .slice none 0 0, .slice none 0 0] 61 (0, 0)) (bk BK119) hb)
                 have n4_ := Aside0.mk (blk_below (g := gb134) (o := .cells #[.int .i64 0, .bool false, .slice none 0 0, .slice none 0 0] 61 (0, 0)) (bk BK134) hb)
                 have n5_ := Aside0.mk (below_step (bl HB) hb)
                 clear HO129
                 clear BK118
                 clear BK119
                 clear BK134
                 clear HB
                 have HO129 := n0_
                 have HO122 := n1_
                 have BK118 := n2_
                 have BK119 := n3_
                 have BK134 := n4_
                 have HB := n5_
                 clear n0_ n1_ n2_ n3_ n4_ n5_
                 clear hb ho23
                 refine hK.out _ _ ⟨(blk_cell BK118.out 0).trans rfl, (blk_cell BK118.out 1).trans rfl, (blk_cell BK118.out 2).trans rfl, (blk_cell BK118.out 3).trans rfl⟩ (fun hHeld => ?_)
                 clear hK K
                 refine norm_ (a' := ?_) ?_ ?_
                 rotate_left
                 ·show Act.put _ (some 16) _ = _
                  simp only [Act.put, List.setIfInBounds_toArray, List.set_cons_zero, List.set_cons_succ, i64_w, i32_w]
                  rfl
                 exact norm_ (by first | (simp only [putAll, Act.put, List.setIfInBounds_toArray, List.set_cons_zero, List.set_cons_succ]; done) | (simp only [putAll, Act.put, List.setIfInBounds_toArray, List.set_cons_zero, List.set_cons_succ]; rfl)) (hJ4_14_25 (v121, v128, gb134) _ ⟨hHeld, (by (with_reducible repeat (first | apply Kd.R_alloc | apply Kd.R_drewN | apply Kd.R_drew)); exact Kd.R_mono HO122.out (fun _ hk => hk.2)), (by (with_reducible repeat (first | apply Kd.R_alloc | apply Kd.R_drewN | apply Kd.R_drew)); exact Kd.R_mono HO129.out (fun _ hk => hk.2)), (bk BK118), (bk BK119), (bk BK134), GW134.out, GE134.out, NB118_134.out, NB134_118.out, NB119_134.out, NB134_119.out, (bl HB)⟩)
               ·skip
                rintro ⟨v121, gb134⟩ w21 ⟨hS_, h0_, h1_, h2_, h3_, h4_, h5_, h6_, h7_, h8_, h9_, h10_⟩
                have n0_ : Aside0 (Kd.R (Kd.int .u32) 145 w21 w.heap.size (fun _ => True) v121 y120) := ⟨h0_⟩
                have n1_ : Aside0 (w21.heap[gb118]? = some (.cells #[.int .i64 a0_0, .bool a0_1, .slice A0_2 l0_2.length c0_2, .slice A0_3 l0_3.length c0_3] 61 (0, 0))) := ⟨h1_⟩
                have n2_ : Aside0 (w21.heap[gb119]? = some (.cells #[.int .i64 0, .bool false, .slice none 0 0, .slice none 0 0] 61 (0, 0))) := ⟨h2_⟩
                have n3_ : Aside0 (w21.heap[gb134]? = some (.cells #[.int .i64 0, .bool false, .slice none 0 0, .slice none 0 0] 61 (0, 0))) := ⟨h3_⟩
                have n4_ : Aside0 (w.heap.size ≤ gb134) := ⟨h4_⟩
                have n5_ : Aside0 (w.heap.size ≤ gb134) := ⟨h5_⟩
                have n6_ : Aside0 (gb118 ≠ gb134) := ⟨h6_⟩
                have n7_ : Aside0 (gb134 ≠ gb118) := ⟨h7_⟩
                have n8_ : Aside0 (gb119 ≠ gb134) := ⟨h8_⟩
                have n9_ : Aside0 (gb134 ≠ gb119) := ⟨h9_⟩
                have n10_ : Aside0 (Below w.heap.size w w21) := ⟨h10_⟩
                clear BK118
                clear BK119
                clear HB
                clear h0_ h1_ h2_ h3_ h4_ h5_ h6_ h7_ h8_ h9_ h10_
                have HO122 := n0_
                have BK118 := n1_
                have BK119 := n2_
                have BK134 := n3_
                have GW134 := n4_
                have GE134 := n5_
                have NB118_134 := n6_
                have NB134_118 := n7_
                have NB119_134 := n8_
                have NB134_119 := n9_
                have HB := n10_
                clear n0_ n1_ n2_ n3_ n4_ n5_ n6_ n7_ n8_ n9_ n10_
                have hHeld : w21.cell? ⟨gb118, 0, none⟩ = some (.int .i64 a0_0) ∧ w21.cell? ⟨gb118, 1, none⟩ = some (.bool a0_1) ∧ w21.cell? ⟨gb118, 2, none⟩ = some (.slice A0_2 l0_2.length c0_2) ∧ w21.cell? ⟨gb118, 3, none⟩ = some (.slice A0_3 l0_3.length c0_3) := hS_
                refine norm_ (a' := ?_) ?_ ?_
                rotate_left
                ·simp only [putAll, Act.put, List.setIfInBounds_toArray, List.set_cons_zero, List.set_cons_succ]
                 rfl
                refine two_ (i := 13) (j := 14) (Ni := some 25) (Nj := some 26) (mk 27 41926655) (mk 27 41934847) rfl rfl rfl rfl (two_of HT_.out (by kernel_rfl)) (by decide) (by decide) (fun K hK => ?_) (fun K hK => ?_)
                ·skip
                 refine Kd.R_append_rows_step (Kd.int .u32) (w0 := w) w.heap.size (by rfl) (.tmp 16) (.tmp 24) 59 145 (.int .u32 0) 4 rfl Tryz.underlying59 info145 rfl (by decide) (by omega) v121 y120 (l0_2.take ((ji5) : Int).toNat) _ _ _ (fun _ => True) (fun _ => False) rfl rfl ?aO ?aR (fun _ _ h => h) (fun _ h => h.elim) ?aF ?aB ?aS ?aL ?_
                 (case aR => first | (have hr_ := HR123.out; rw [show (l0_2.take ((ji5) : Int).toNat).length = (ji5).toNat from (by rw [List.length_take]; have h_ : ((ji5) : Int) ≤ (l0_2.length : Int) := oa; omega)] at hr_; repeat (first | exact (Kd.C_below hr_ HB.out) | (with_reducible refine Kd.C_alloc ?_ _) | (with_reducible refine Kd.C_drewN ?_ _) | (with_reducible refine Kd.C_drew ?_)); done) | (repeat (first | exact (Kd.C_below HR123.out HB.out) | (with_reducible refine Kd.C_alloc ?_ _) | (with_reducible refine Kd.C_drewN ?_ _) | (with_reducible refine Kd.C_drew ?_))))
                 (case aB => exact (bl HB))
                 (case aF => exact (fun _ _ => trivial))
                 (case aO => exact (by (with_reducible repeat (first | apply Kd.R_alloc | apply Kd.R_drewN | apply Kd.R_drew)); exact HO122.out))
                 (case aS => exact (below_size (bl HB)))
                 (case aL => have := LMc8.out; have hlx_ := (show (l0_2.take ((ji5) : Int).toNat).length = (ji5).toNat from (by rw [List.length_take]; have h_ : ((ji5) : Int) ≤ (l0_2.length : Int) := oa; omega)); omega)
                 intro v125 w22 ho hb hg hat
                 rw [← Ny124.out] at ho
                 have n0_ := Aside0.mk (blk_grown (g := gb118) (o := .cells #[.int .i64 a0_0, .bool a0_1, .slice A0_2 l0_2.length c0_2, .slice A0_3 l0_3.length c0_3] 61 (0, 0)) (bk BK118) hg (Kd.R_ne HO122.out BK118.out (by decide)))
                 have n1_ := Aside0.mk (blk_grown (g := gb119) (o := .cells #[.int .i64 0, .bool false, .slice none 0 0, .slice none 0 0] 61 (0, 0)) (bk BK119) hg (Kd.R_ne HO122.out BK119.out (by decide)))
                 have n2_ := Aside0.mk (blk_grown (g := gb134) (o := .cells #[.int .i64 0, .bool false, .slice none 0 0, .slice none 0 0] 61 (0, 0)) (bk BK134) hg (Kd.R_ne HO122.out BK134.out (by decide)))
                 have n3_ := Aside0.mk (hb)
                 have n4_ := Aside0.mk (ho)
                 clear BK118
                 clear BK119
                 clear BK134
                 clear HB
                 clear HO122
                 have BK118 := n0_
                 have BK119 := n1_
                 have BK134 := n2_
                 have HB := n3_
                 have HO126 := n4_
                 clear n0_ n1_ n2_ n3_ n4_
                 clear ho hb hg hat
                 refine hK.out _ _ ⟨(blk_cell BK118.out 0).trans rfl, (blk_cell BK118.out 1).trans rfl, (blk_cell BK118.out 2).trans rfl, (blk_cell BK118.out 3).trans rfl⟩ (fun hHeld => ?_)
                 clear hK K
                 refine norm_ (a' := ?_) ?_ ?_
                 rotate_left
                 ·show Act.put _ (some 25) _ = _
                  simp only [Act.put, List.setIfInBounds_toArray, List.set_cons_zero, List.set_cons_succ, i64_w, i32_w]
                  rfl
                 exact norm_ (by first | (simp only [putAll, Act.put, List.setIfInBounds_toArray, List.set_cons_zero, List.set_cons_succ]; done) | (simp only [putAll, Act.put, List.setIfInBounds_toArray, List.set_cons_zero, List.set_cons_succ]; rfl)) (hJ4_13_25 (v121, v125, gb134) _ ⟨hHeld, (by (with_reducible repeat (first | apply Kd.R_alloc | apply Kd.R_drewN | apply Kd.R_drew)); exact HO126.out), (bk BK118), (bk BK119), (bk BK134), GW134.out, GE134.out, NB118_134.out, NB134_118.out, NB119_134.out, NB134_119.out, (bl HB)⟩)
                ·skip
                 refine Kd.R_lit_step (Kd.int .u32) _ 145 ?hg (N := 26) ?hd (xs := ([] : List Int)) (inner := []) (ok := fun _ => True) (okp := fun _ => True) ?hr ?hp (fun _ hk => hk) trivial (Below.refl _ _) (Nat.le_refl _) (by simp) ?_; (case hd => rfl); (case hg => rfl); (case hr => first | (go_simp; done) | (go_simp; rfl)); (case hp => exact (Reps.none _ _))
                 intro v128 w22 ho23 hb hg_ hnew_
                 clear hg_ hnew_
                 (first | rw [← Ny127.out] at ho23 | (simp only [Int.reduceToNat] at ho23; rw [← Ny127.out] at ho23))
                 have n0_ := Aside0.mk (Kd.R_elder' (by (with_reducible repeat (first | apply Kd.R_alloc | apply Kd.R_drewN | apply Kd.R_drew)); exact HO122.out) (Kd.R_base ho23) hb)
                 have n1_ := Aside0.mk (Kd.R_lower (Kd.R_new' ho23 (Kd.R_lt (by (with_reducible repeat (first | apply Kd.R_alloc | apply Kd.R_drewN | apply Kd.R_drew)); exact HO122.out))) (below_size (bl HB)))
                 have n2_ := Aside0.mk (blk_below (g := gb118) (o := .cells #[.int .i64 a0_0, .bool a0_1, .slice A0_2 l0_2.length c0_2, .slice A0_3 l0_3.length c0_3] 61 (0, 0)) (bk BK118) hb)
                 have n3_ := Aside0.mk (blk_below (g := gb119) (o := .cells #[.int .i64 0, .bool false, .slice none 0 0, .slice none 0 0] 61 (0, 0)) (bk BK119) hb)
                 have n4_ := Aside0.mk (blk_below (g := gb134) (o := .cells #[.int .i64 0, .bool false, .slice none 0 0, .slice none 0 0] 61 (0, 0)) (bk BK134) hb)
                 have n5_ := Aside0.mk (below_step (bl HB) hb)
                 clear HO122
                 clear BK118
                 clear BK119
                 clear BK134
                 clear HB
                 have HO122 := n0_
                 have HO129 := n1_
                 have BK118 := n2_
                 have BK119 := n3_
                 have BK134 := n4_
                 have HB := n5_
                 clear n0_ n1_ n2_ n3_ n4_ n5_
                 clear hb ho23
                 refine hK.out _ _ ⟨(blk_cell BK118.out 0).trans rfl, (blk_cell BK118.out 1).trans rfl, (blk_cell BK118.out 2).trans rfl, (blk_cell BK118.out 3).trans rfl⟩ (fun hHeld => ?_)
                 clear hK K
                 refine norm_ (a' := ?_) ?_ ?_
                 rotate_left
                 ·show Act.put _ (some 26) _ = _
                  simp only [Act.put, List.setIfInBounds_toArray, List.set_cons_zero, List.set_cons_succ, i64_w, i32_w]
                  rfl
                 exact norm_ (by first | (simp only [putAll, Act.put, List.setIfInBounds_toArray, List.set_cons_zero, List.set_cons_succ]; done) | (simp only [putAll, Act.put, List.setIfInBounds_toArray, List.set_cons_zero, List.set_cons_succ]; rfl)) (hJ4_14_25 (v121, v128, gb134) _ ⟨hHeld, (by (with_reducible repeat (first | apply Kd.R_alloc | apply Kd.R_drewN | apply Kd.R_drew)); exact Kd.R_mono HO122.out (fun _ hk => hk.2)), (by (with_reducible repeat (first | apply Kd.R_alloc | apply Kd.R_drewN | apply Kd.R_drew)); exact Kd.R_mono HO129.out (fun _ hk => hk.2)), (bk BK118), (bk BK119), (bk BK134), GW134.out, GE134.out, NB118_134.out, NB134_118.out, NB119_134.out, NB134_119.out, (bl HB)⟩)
              ·skip
               rintro ⟨v121, v128⟩ w22 ⟨hS_, h0_, h1_, h2_, h3_, h4_⟩
               have n0_ : Aside0 (Kd.R (Kd.int .u32) 145 w22 w.heap.size (fun k_ => some k_ ≠ (v128 : Value).ownBlock) v121 y120) := ⟨h0_⟩
               have n1_ : Aside0 (Kd.R (Kd.int .u32) 145 w22 w.heap.size (fun k_ => some k_ ≠ (v121 : Value).ownBlock) v128 y127) := ⟨h1_⟩
               have n2_ : Aside0 (w22.heap[gb118]? = some (.cells #[.int .i64 a0_0, .bool a0_1, .slice A0_2 l0_2.length c0_2, .slice A0_3 l0_3.length c0_3] 61 (0, 0))) := ⟨h2_⟩
               have n3_ : Aside0 (w22.heap[gb119]? = some (.cells #[.int .i64 0, .bool false, .slice none 0 0, .slice none 0 0] 61 (0, 0))) := ⟨h3_⟩
               have n4_ : Aside0 (Below w.heap.size w w22) := ⟨h4_⟩
               clear BK118
               clear BK119
               clear HB
               clear h0_ h1_ h2_ h3_ h4_
               have HO122 := n0_
               have HO129 := n1_
               have BK118 := n2_
               have BK119 := n3_
               have HB := n4_
               clear n0_ n1_ n2_ n3_ n4_
               have hHeld : w22.cell? ⟨gb118, 0, none⟩ = some (.int .i64 a0_0) ∧ w22.cell? ⟨gb118, 1, none⟩ = some (.bool a0_1) ∧ w22.cell? ⟨gb118, 2, none⟩ = some (.slice A0_2 l0_2.length c0_2) ∧ w22.cell? ⟨gb118, 3, none⟩ = some (.slice A0_3 l0_3.length c0_3) := hS_
               refine norm_ (a' := ?_) ?_ ?_
               rotate_left
               ·simp only [putAll, Act.put, List.setIfInBounds_toArray, List.set_cons_zero, List.set_cons_succ]
                rfl
               refine two_ (i := 13) (j := 25) (Ni := some 25) (Nj := some 7) (mk 27 8388607) (mk 27 41934847) rfl rfl rfl rfl (two_of HT_.out (by kernel_rfl)) (by decide) (by decide) (fun K hK => ?_) (fun K hK => ?_)
               ·skip
                refine Kd.R_append_rows_step (Kd.int .u32) (w0 := w) w.heap.size (by rfl) (.tmp 16) (.tmp 24) 59 145 (.int .u32 0) 4 rfl Tryz.underlying59 info145 rfl (by decide) (by omega) v121 y120 (l0_2.take ((ji5) : Int).toNat) _ _ _ (fun k_ => some k_ ≠ (v128 : Value).ownBlock) (fun _ => False) rfl rfl ?aO ?aR (fun _ _ h => h) (fun _ h => h.elim) ?aF ?aB ?aS ?aL ?_
                (case aR => first | (have hr_ := HR123.out; rw [show (l0_2.take ((ji5) : Int).toNat).length = (ji5).toNat from (by rw [List.length_take]; have h_ : ((ji5) : Int) ≤ (l0_2.length : Int) := oa; omega)] at hr_; repeat (first | exact (Kd.C_below hr_ HB.out) | (with_reducible refine Kd.C_alloc ?_ _) | (with_reducible refine Kd.C_drewN ?_ _) | (with_reducible refine Kd.C_drew ?_)); done) | (repeat (first | exact (Kd.C_below HR123.out HB.out) | (with_reducible refine Kd.C_alloc ?_ _) | (with_reducible refine Kd.C_drewN ?_ _) | (with_reducible refine Kd.C_drew ?_))))
                (case aB => exact (bl HB))
                (case aF => exact (fun k_ hk => Kd.fresh' (Kd.R_lt (by (with_reducible repeat (first | apply Kd.R_alloc | apply Kd.R_drewN | apply Kd.R_drew)); exact HO129.out)) k_ hk))
                (case aO => exact (by (with_reducible repeat (first | apply Kd.R_alloc | apply Kd.R_drewN | apply Kd.R_drew)); exact HO122.out))
                (case aS => exact (below_size (bl HB)))
                (case aL => have := LMc8.out; have hlx_ := (show (l0_2.take ((ji5) : Int).toNat).length = (ji5).toNat from (by rw [List.length_take]; have h_ : ((ji5) : Int) ≤ (l0_2.length : Int) := oa; omega)); omega)
                intro v125 w23 ho hb hg hat
                rw [← Ny124.out] at ho
                have n0_ := Aside0.mk (blk_grown (g := gb118) (o := .cells #[.int .i64 a0_0, .bool a0_1, .slice A0_2 l0_2.length c0_2, .slice A0_3 l0_3.length c0_3] 61 (0, 0)) (bk BK118) hg (Kd.R_ne HO122.out BK118.out (by decide)))
                have n1_ := Aside0.mk (blk_grown (g := gb119) (o := .cells #[.int .i64 0, .bool false, .slice none 0 0, .slice none 0 0] 61 (0, 0)) (bk BK119) hg (Kd.R_ne HO122.out BK119.out (by decide)))
                have n2_ := Aside0.mk (Kd.R_after (ok := (fun _ => True)) (by (with_reducible repeat (first | apply Kd.R_alloc | apply Kd.R_drewN | apply Kd.R_drew)); exact Kd.R_mono HO129.out (fun _ hk => ⟨trivial, hk⟩)) hg hat)
                have n3_ := Aside0.mk (hb)
                have n4_ := Aside0.mk (ho)
                clear BK118
                clear BK119
                clear HO129
                clear HB
                clear HO122
                have BK118 := n0_
                have BK119 := n1_
                have HO129 := n2_
                have HB := n3_
                have HO126 := n4_
                clear n0_ n1_ n2_ n3_ n4_
                clear ho hb hg hat
                refine hK.out _ _ ⟨(blk_cell BK118.out 0).trans rfl, (blk_cell BK118.out 1).trans rfl, (blk_cell BK118.out 2).trans rfl, (blk_cell BK118.out 3).trans rfl⟩ (fun hHeld => ?_)
                clear hK K
                refine norm_ (a' := ?_) ?_ ?_
                rotate_left
                ·show Act.put _ (some 25) _ = _
                 simp only [Act.put, List.setIfInBounds_toArray, List.set_cons_zero, List.set_cons_succ, i64_w, i32_w]
                 rfl
                exact norm_ (by first | (simp only [putAll, Act.put, List.setIfInBounds_toArray, List.set_cons_zero, List.set_cons_succ]; done) | (simp only [putAll, Act.put, List.setIfInBounds_toArray, List.set_cons_zero, List.set_cons_succ]; rfl)) (hJ4_13_14 (v121, v125, v128) _ ⟨hHeld, (by (with_reducible repeat (first | apply Kd.R_alloc | apply Kd.R_drewN | apply Kd.R_drew)); exact HO126.out), (by (with_reducible repeat (first | apply Kd.R_alloc | apply Kd.R_drewN | apply Kd.R_drew)); exact Kd.R_mono HO129.out (fun _ hk => hk.2)), (bk BK118), (bk BK119), (bl HB)⟩)
               ·skip
                refine box_step ?hg (N := 7) ?hd (cs := #[.int .i64 0, .bool false, .slice none 0 0, .slice none 0 0]) (t := 61) ?hr ?_; (case hd => rfl); (case hg => rfl); (case hr => first | (go_simp; done) | (go_simp; rfl))
                intro gb134 hg w23 hbox hb
                have n0_ := Aside0.mk (Kd.R_below (by (with_reducible repeat (first | apply Kd.R_alloc | apply Kd.R_drewN | apply Kd.R_drew)); exact HO122.out) hb)
                have n1_ := Aside0.mk (Kd.R_below (by (with_reducible repeat (first | apply Kd.R_alloc | apply Kd.R_drewN | apply Kd.R_drew)); exact HO129.out) hb)
                have n2_ := Aside0.mk (blk_below (g := gb118) (o := .cells #[.int .i64 a0_0, .bool a0_1, .slice A0_2 l0_2.length c0_2, .slice A0_3 l0_3.length c0_3] 61 (0, 0)) (bk BK118) hb)
                have n3_ := Aside0.mk (blk_below (g := gb119) (o := .cells #[.int .i64 0, .bool false, .slice none 0 0, .slice none 0 0] 61 (0, 0)) (bk BK119) hb)
                have n4_ := Aside0.mk (below_step (bl HB) hb)
                have n5_ := Aside0.mk (hbox)
                have n6_ := (gz hg HB : Aside0 (w.heap.size ≤ gb134))
                have n7_ := (gz hg HB : Aside0 (w.heap.size ≤ gb134))
                have n8_ := Aside0.mk ((by rw [hg]; exact Nat.ne_of_lt (blk_lt (g := gb118) (o := .cells #[.int .i64 a0_0, .bool a0_1, .slice A0_2 l0_2.length c0_2, .slice A0_3 l0_3.length c0_3] 61 (0, 0)) (bk BK118)) : gb118 ≠ gb134))
                have n9_ := Aside0.mk ((by rw [hg]; exact Nat.ne_of_gt (blk_lt (g := gb118) (o := .cells #[.int .i64 a0_0, .bool a0_1, .slice A0_2 l0_2.length c0_2, .slice A0_3 l0_3.length c0_3] 61 (0, 0)) (bk BK118)) : gb134 ≠ gb118))
                have n10_ := Aside0.mk ((by rw [hg]; exact Nat.ne_of_lt (blk_lt (g := gb119) (o := .cells #[.int .i64 0, .bool false, .slice none 0 0, .slice none 0 0] 61 (0, 0)) (bk BK119)) : gb119 ≠ gb134))
                have n11_ := Aside0.mk ((by rw [hg]; exact Nat.ne_of_gt (blk_lt (g := gb119) (o := .cells #[.int .i64 0, .bool false, .slice none 0 0, .slice none 0 0] 61 (0, 0)) (bk BK119)) : gb134 ≠ gb119))
                clear HO122
                clear HO129
                clear BK118
                clear BK119
                clear HB
                have HO122 := n0_
                have HO129 := n1_
                have BK118 := n2_
                have BK119 := n3_
                have HB := n4_
                have BK134 := n5_
                have GW134 := n6_
                have GE134 := n7_
                have NB118_134 := n8_
                have NB134_118 := n9_
                have NB119_134 := n10_
                have NB134_119 := n11_
                clear n0_ n1_ n2_ n3_ n4_ n5_ n6_ n7_ n8_ n9_ n10_ n11_
                clear hb hbox hg
                refine hK.out _ _ ⟨(blk_cell BK118.out 0).trans rfl, (blk_cell BK118.out 1).trans rfl, (blk_cell BK118.out 2).trans rfl, (blk_cell BK118.out 3).trans rfl⟩ (fun hHeld => ?_)
                clear hK K
                refine norm_ (a' := ?_) ?_ ?_
                rotate_left
                ·show Act.put _ (some 7) _ = _
                 simp only [Act.put, List.setIfInBounds_toArray, List.set_cons_zero, List.set_cons_succ, i64_w, i32_w]
                 rfl
                exact norm_ (by first | (simp only [putAll, Act.put, List.setIfInBounds_toArray, List.set_cons_zero, List.set_cons_succ]; done) | (simp only [putAll, Act.put, List.setIfInBounds_toArray, List.set_cons_zero, List.set_cons_succ]; rfl)) (hJ4_14_25 (v121, v128, gb134) _ ⟨hHeld, (by (with_reducible repeat (first | apply Kd.R_alloc | apply Kd.R_drewN | apply Kd.R_drew)); exact HO122.out), (by (with_reducible repeat (first | apply Kd.R_alloc | apply Kd.R_drewN | apply Kd.R_drew)); exact HO129.out), (bk BK118), (bk BK119), (bk BK134), GW134.out, GE134.out, NB118_134.out, NB134_118.out, NB119_134.out, NB134_119.out, (bl HB)⟩)
             ·skip
              rintro ⟨v121, v125⟩ w21 ⟨hS_, h0_, h1_, h2_, h3_⟩
              have n0_ : Aside0 (Kd.R (Kd.int .u32) 145 w21 w.heap.size (fun _ => True) v125 y124) := ⟨h0_⟩
              have n1_ : Aside0 (w21.heap[gb118]? = some (.cells #[.int .i64 a0_0, .bool a0_1, .slice A0_2 l0_2.length c0_2, .slice A0_3 l0_3.length c0_3] 61 (0, 0))) := ⟨h1_⟩
              have n2_ : Aside0 (w21.heap[gb119]? = some (.cells #[.int .i64 0, .bool false, .slice none 0 0, .slice none 0 0] 61 (0, 0))) := ⟨h2_⟩
              have n3_ : Aside0 (Below w.heap.size w w21) := ⟨h3_⟩
              clear BK118
              clear BK119
              clear HB
              clear h0_ h1_ h2_ h3_
              have HO126 := n0_
              have BK118 := n1_
              have BK119 := n2_
              have HB := n3_
              clear n0_ n1_ n2_ n3_
              have hHeld : w21.cell? ⟨gb118, 0, none⟩ = some (.int .i64 a0_0) ∧ w21.cell? ⟨gb118, 1, none⟩ = some (.bool a0_1) ∧ w21.cell? ⟨gb118, 2, none⟩ = some (.slice A0_2 l0_2.length c0_2) ∧ w21.cell? ⟨gb118, 3, none⟩ = some (.slice A0_3 l0_3.length c0_3) := hS_
              refine norm_ (a' := ?_) ?_ ?_
              rotate_left
              ·simp only [putAll, Act.put, List.setIfInBounds_toArray, List.set_cons_zero, List.set_cons_succ]
               rfl
              refine two_ (i := 14) (j := 25) (Ni := some 26) (Nj := some 7) (mk 27 8388607) (mk 27 41926655) rfl rfl rfl rfl (two_of HT_.out (by kernel_rfl)) (by decide) (by decide) (fun K hK => ?_) (fun K hK => ?_)
              ·skip
               refine Kd.R_lit_step (Kd.int .u32) _ 145 ?hg (N := 26) ?hd (xs := ([] : List Int)) (inner := []) (ok := fun _ => True) (okp := fun _ => True) ?hr ?hp (fun _ hk => hk) trivial (Below.refl _ _) (Nat.le_refl _) (by simp) ?_; (case hd => rfl); (case hg => rfl); (case hr => first | (go_simp; done) | (go_simp; rfl)); (case hp => exact (Reps.none _ _))
               intro v128 w22 ho23 hb hg_ hnew_
               clear hg_ hnew_
               (first | rw [← Ny127.out] at ho23 | (simp only [Int.reduceToNat] at ho23; rw [← Ny127.out] at ho23))
               have n0_ := Aside0.mk (Kd.R_elder' (by (with_reducible repeat (first | apply Kd.R_alloc | apply Kd.R_drewN | apply Kd.R_drew)); exact HO126.out) (Kd.R_base ho23) hb)
               have n1_ := Aside0.mk (Kd.R_lower (Kd.R_new' ho23 (Kd.R_lt (by (with_reducible repeat (first | apply Kd.R_alloc | apply Kd.R_drewN | apply Kd.R_drew)); exact HO126.out))) (below_size (bl HB)))
               have n2_ := Aside0.mk (blk_below (g := gb118) (o := .cells #[.int .i64 a0_0, .bool a0_1, .slice A0_2 l0_2.length c0_2, .slice A0_3 l0_3.length c0_3] 61 (0, 0)) (bk BK118) hb)
               have n3_ := Aside0.mk (blk_below (g := gb119) (o := .cells #[.int .i64 0, .bool false, .slice none 0 0, .slice none 0 0] 61 (0, 0)) (bk BK119) hb)
               have n4_ := Aside0.mk (below_step (bl HB) hb)
               clear HO126
               clear BK118
               clear BK119
               clear HB
               have HO126 := n0_
               have HO129 := n1_
               have BK118 := n2_
               have BK119 := n3_
               have HB := n4_
               clear n0_ n1_ n2_ n3_ n4_
               clear hb ho23
               refine hK.out _ _ ⟨(blk_cell BK118.out 0).trans rfl, (blk_cell BK118.out 1).trans rfl, (blk_cell BK118.out 2).trans rfl, (blk_cell BK118.out 3).trans rfl⟩ (fun hHeld => ?_)
               clear hK K
               refine norm_ (a' := ?_) ?_ ?_
               rotate_left
               ·show Act.put _ (some 26) _ = _
                simp only [Act.put, List.setIfInBounds_toArray, List.set_cons_zero, List.set_cons_succ, i64_w, i32_w]
                rfl
               exact norm_ (by first | (simp only [putAll, Act.put, List.setIfInBounds_toArray, List.set_cons_zero, List.set_cons_succ]; done) | (simp only [putAll, Act.put, List.setIfInBounds_toArray, List.set_cons_zero, List.set_cons_succ]; rfl)) (hJ4_13_14 (v121, v125, v128) _ ⟨hHeld, (by (with_reducible repeat (first | apply Kd.R_alloc | apply Kd.R_drewN | apply Kd.R_drew)); exact Kd.R_mono HO126.out (fun _ hk => hk.2)), (by (with_reducible repeat (first | apply Kd.R_alloc | apply Kd.R_drewN | apply Kd.R_drew)); exact Kd.R_mono HO129.out (fun _ hk => hk.2)), (bk BK118), (bk BK119), (bl HB)⟩)
              ·skip
               refine box_step ?hg (N := 7) ?hd (cs := #[.int .i64 0, .bool false, .slice none 0 0, .slice none 0 0]) (t := 61) ?hr ?_; (case hd => rfl); (case hg => rfl); (case hr => first | (go_simp; done) | (go_simp; rfl))
               intro gb134 hg w22 hbox hb
               have n0_ := Aside0.mk (Kd.R_below (by (with_reducible repeat (first | apply Kd.R_alloc | apply Kd.R_drewN | apply Kd.R_drew)); exact HO126.out) hb)
               have n1_ := Aside0.mk (blk_below (g := gb118) (o := .cells #[.int .i64 a0_0, .bool a0_1, .slice A0_2 l0_2.length c0_2, .slice A0_3 l0_3.length c0_3] 61 (0, 0)) (bk BK118) hb)
               have n2_ := Aside0.mk (blk_below (g := gb119) (o := .cells #[.int .i64 0, .bool false, .slice none 0 0, .slice none 0 0] 61 (0, 0)) (bk BK119) hb)
               have n3_ := Aside0.mk (below_step (bl HB) hb)
               have n4_ := Aside0.mk (hbox)
               have n5_ := (gz hg HB : Aside0 (w.heap.size ≤ gb134))
               have n6_ := (gz hg HB : Aside0 (w.heap.size ≤ gb134))
               have n7_ := Aside0.mk ((by rw [hg]; exact Nat.ne_of_lt (blk_lt (g := gb118) (o := .cells #[.int .i64 a0_0, .bool a0_1, .slice A0_2 l0_2.length c0_2, .slice A0_3 l0_3.length c0_3] 61 (0, 0)) (bk BK118)) : gb118 ≠ gb134))
               have n8_ := Aside0.mk ((by rw [hg]; exact Nat.ne_of_gt (blk_lt (g := gb118) (o := .cells #[.int .i64 a0_0, .bool a0_1, .slice A0_2 l0_2.length c0_2, .slice A0_3 l0_3.length c0_3] 61 (0, 0)) (bk BK118)) : gb134 ≠ gb118))
               have n9_ := Aside0.mk ((by rw [hg]; exact Nat.ne_of_lt (blk_lt (g := gb119) (o := .cells #[.int .i64 0, .bool false, .slice none 0 0, .slice none 0 0] 61 (0, 0)) (bk BK119)) : gb119 ≠ gb134))
               have n10_ := Aside0.mk ((by rw [hg]; exact Nat.ne_of_gt (blk_lt (g := gb119) (o := .cells #[.int .i64 0, .bool false, .slice none 0 0, .slice none 0 0] 61 (0, 0)) (bk BK119)) : gb134 ≠ gb119))
               clear HO126
               clear BK118
               clear BK119
               clear HB
               have HO126 := n0_
               have BK118 := n1_
               have BK119 := n2_
               have HB := n3_
               have BK134 := n4_
               have GW134 := n5_
               have GE134 := n6_
               have NB118_134 := n7_
               have NB134_118 := n8_
               have NB119_134 := n9_
               have NB134_119 := n10_
               clear n0_ n1_ n2_ n3_ n4_ n5_ n6_ n7_ n8_ n9_ n10_
               clear hb hbox hg
               refine hK.out _ _ ⟨(blk_cell BK118.out 0).trans rfl, (blk_cell BK118.out 1).trans rfl, (blk_cell BK118.out 2).trans rfl, (blk_cell BK118.out 3).trans rfl⟩ (fun hHeld => ?_)
               clear hK K
               refine norm_ (a' := ?_) ?_ ?_
               rotate_left
               ·show Act.put _ (some 7) _ = _
                simp only [Act.put, List.setIfInBounds_toArray, List.set_cons_zero, List.set_cons_succ, i64_w, i32_w]
                rfl
               exact norm_ (by first | (simp only [putAll, Act.put, List.setIfInBounds_toArray, List.set_cons_zero, List.set_cons_succ]; done) | (simp only [putAll, Act.put, List.setIfInBounds_toArray, List.set_cons_zero, List.set_cons_succ]; rfl)) (hJ4_13_25 (v121, v125, gb134) _ ⟨hHeld, (by (with_reducible repeat (first | apply Kd.R_alloc | apply Kd.R_drewN | apply Kd.R_drew)); exact HO126.out), (bk BK118), (bk BK119), (bk BK134), GW134.out, GE134.out, NB118_134.out, NB134_118.out, NB119_134.out, NB134_119.out, (bl HB)⟩)
            ·skip
             rintro ⟨v121, v128, gb134⟩ w23 ⟨hS_, h0_, h1_, h2_, h3_, h4_, h5_, h6_, h7_, h8_, h9_, h10_, h11_⟩
             have n0_ : Aside0 (Kd.R (Kd.int .u32) 145 w23 w.heap.size (fun k_ => some k_ ≠ (v128 : Value).ownBlock) v121 y120) := ⟨h0_⟩
             have n1_ : Aside0 (Kd.R (Kd.int .u32) 145 w23 w.heap.size (fun k_ => some k_ ≠ (v121 : Value).ownBlock) v128 y127) := ⟨h1_⟩
             have n2_ : Aside0 (w23.heap[gb118]? = some (.cells #[.int .i64 a0_0, .bool a0_1, .slice A0_2 l0_2.length c0_2, .slice A0_3 l0_3.length c0_3] 61 (0, 0))) := ⟨h2_⟩
             have n3_ : Aside0 (w23.heap[gb119]? = some (.cells #[.int .i64 0, .bool false, .slice none 0 0, .slice none 0 0] 61 (0, 0))) := ⟨h3_⟩
             have n4_ : Aside0 (w23.heap[gb134]? = some (.cells #[.int .i64 0, .bool false, .slice none 0 0, .slice none 0 0] 61 (0, 0))) := ⟨h4_⟩
             have n5_ : Aside0 (w.heap.size ≤ gb134) := ⟨h5_⟩
             have n6_ : Aside0 (w.heap.size ≤ gb134) := ⟨h6_⟩
             have n7_ : Aside0 (gb118 ≠ gb134) := ⟨h7_⟩
             have n8_ : Aside0 (gb134 ≠ gb118) := ⟨h8_⟩
             have n9_ : Aside0 (gb119 ≠ gb134) := ⟨h9_⟩
             have n10_ : Aside0 (gb134 ≠ gb119) := ⟨h10_⟩
             have n11_ : Aside0 (Below w.heap.size w w23) := ⟨h11_⟩
             clear BK118
             clear BK119
             clear HB
             clear h0_ h1_ h2_ h3_ h4_ h5_ h6_ h7_ h8_ h9_ h10_ h11_
             have HO122 := n0_
             have HO129 := n1_
             have BK118 := n2_
             have BK119 := n3_
             have BK134 := n4_
             have GW134 := n5_
             have GE134 := n6_
             have NB118_134 := n7_
             have NB134_118 := n8_
             have NB119_134 := n9_
             have NB134_119 := n10_
             have HB := n11_
             clear n0_ n1_ n2_ n3_ n4_ n5_ n6_ n7_ n8_ n9_ n10_ n11_
             have hHeld : w23.cell? ⟨gb118, 0, none⟩ = some (.int .i64 a0_0) ∧ w23.cell? ⟨gb118, 1, none⟩ = some (.bool a0_1) ∧ w23.cell? ⟨gb118, 2, none⟩ = some (.slice A0_2 l0_2.length c0_2) ∧ w23.cell? ⟨gb118, 3, none⟩ = some (.slice A0_3 l0_3.length c0_3) := hS_
             refine norm_ (a' := ?_) ?_ ?_
             rotate_left
             ·simp only [putAll, Act.put, List.setIfInBounds_toArray, List.set_cons_zero, List.set_cons_succ]
              rfl
             refine one_ (i := 13) (N := some 25) (mk 27 41943039) rfl rfl (one_of HT_.out (by kernel_rfl)) (by decide) (fun K hK => ?_)
             refine Kd.R_append_rows_step (Kd.int .u32) (w0 := w) w.heap.size (by rfl) (.tmp 16) (.tmp 24) 59 145 (.int .u32 0) 4 rfl Tryz.underlying59 info145 rfl (by decide) (by omega) v121 y120 (l0_2.take ((ji5) : Int).toNat) _ _ _ (fun k_ => some k_ ≠ (v128 : Value).ownBlock) (fun _ => False) rfl rfl ?aO ?aR (fun _ _ h => h) (fun _ h => h.elim) ?aF ?aB ?aS ?aL ?_
             (case aR => first | (have hr_ := HR123.out; rw [show (l0_2.take ((ji5) : Int).toNat).length = (ji5).toNat from (by rw [List.length_take]; have h_ : ((ji5) : Int) ≤ (l0_2.length : Int) := oa; omega)] at hr_; repeat (first | exact (Kd.C_below hr_ HB.out) | (with_reducible refine Kd.C_alloc ?_ _) | (with_reducible refine Kd.C_drewN ?_ _) | (with_reducible refine Kd.C_drew ?_)); done) | (repeat (first | exact (Kd.C_below HR123.out HB.out) | (with_reducible refine Kd.C_alloc ?_ _) | (with_reducible refine Kd.C_drewN ?_ _) | (with_reducible refine Kd.C_drew ?_))))
             (case aB => exact (bl HB))
             (case aF => exact (fun k_ hk => Kd.fresh' (Kd.R_lt (by (with_reducible repeat (first | apply Kd.R_alloc | apply Kd.R_drewN | apply Kd.R_drew)); exact HO129.out)) k_ hk))
             (case aO => exact (by (with_reducible repeat (first | apply Kd.R_alloc | apply Kd.R_drewN | apply Kd.R_drew)); exact HO122.out))
             (case aS => exact (below_size (bl HB)))
             (case aL => have := LMc8.out; have hlx_ := (show (l0_2.take ((ji5) : Int).toNat).length = (ji5).toNat from (by rw [List.length_take]; have h_ : ((ji5) : Int) ≤ (l0_2.length : Int) := oa; omega)); omega)
             intro v125 w24 ho hb hg hat
             rw [← Ny124.out] at ho
             have n0_ := Aside0.mk (blk_grown (g := gb118) (o := .cells #[.int .i64 a0_0, .bool a0_1, .slice A0_2 l0_2.length c0_2, .slice A0_3 l0_3.length c0_3] 61 (0, 0)) (bk BK118) hg (Kd.R_ne HO122.out BK118.out (by decide)))
             have n1_ := Aside0.mk (blk_grown (g := gb119) (o := .cells #[.int .i64 0, .bool false, .slice none 0 0, .slice none 0 0] 61 (0, 0)) (bk BK119) hg (Kd.R_ne HO122.out BK119.out (by decide)))
             have n2_ := Aside0.mk (Kd.R_after (ok := (fun _ => True)) (by (with_reducible repeat (first | apply Kd.R_alloc | apply Kd.R_drewN | apply Kd.R_drew)); exact Kd.R_mono HO129.out (fun _ hk => ⟨trivial, hk⟩)) hg hat)
             have n3_ := Aside0.mk (blk_grown (g := gb134) (o := .cells #[.int .i64 0, .bool false, .slice none 0 0, .slice none 0 0] 61 (0, 0)) (bk BK134) hg (Kd.R_ne HO122.out BK134.out (by decide)))
             have n4_ := Aside0.mk (hb)
             have n5_ := Aside0.mk (ho)
             clear BK118
             clear BK119
             clear HO129
             clear BK134
             clear HB
             clear HO122
             have BK118 := n0_
             have BK119 := n1_
             have HO129 := n2_
             have BK134 := n3_
             have HB := n4_
             have HO126 := n5_
             clear n0_ n1_ n2_ n3_ n4_ n5_
             clear ho hb hg hat
             refine hK.out _ _ ⟨(blk_cell BK118.out 0).trans rfl, (blk_cell BK118.out 1).trans rfl, (blk_cell BK118.out 2).trans rfl, (blk_cell BK118.out 3).trans rfl⟩ (fun hHeld => ?_)
             clear hK K
             refine norm_ (a' := ?_) ?_ ?_
             rotate_left
             ·show Act.put _ (some 25) _ = _
              simp only [Act.put, List.setIfInBounds_toArray, List.set_cons_zero, List.set_cons_succ, i64_w, i32_w]
              rfl
             exact norm_ (by first | (simp only [putAll, Act.put, List.setIfInBounds_toArray, List.set_cons_zero, List.set_cons_succ]; done) | (simp only [putAll, Act.put, List.setIfInBounds_toArray, List.set_cons_zero, List.set_cons_succ]; rfl)) (hJ4_13_14_25 (v121, v125, v128, gb134) _ ⟨hHeld, (by (with_reducible repeat (first | apply Kd.R_alloc | apply Kd.R_drewN | apply Kd.R_drew)); exact HO126.out), (by (with_reducible repeat (first | apply Kd.R_alloc | apply Kd.R_drewN | apply Kd.R_drew)); exact Kd.R_mono HO129.out (fun _ hk => hk.2)), (bk BK118), (bk BK119), (bk BK134), GW134.out, GE134.out, NB118_134.out, NB134_118.out, NB119_134.out, NB134_119.out, (bl HB)⟩)
           ·skip
            rintro ⟨v121, v125, gb134⟩ w22 ⟨hS_, h0_, h1_, h2_, h3_, h4_, h5_, h6_, h7_, h8_, h9_, h10_⟩
            have n0_ : Aside0 (Kd.R (Kd.int .u32) 145 w22 w.heap.size (fun _ => True) v125 y124) := ⟨h0_⟩
            have n1_ : Aside0 (w22.heap[gb118]? = some (.cells #[.int .i64 a0_0, .bool a0_1, .slice A0_2 l0_2.length c0_2, .slice A0_3 l0_3.length c0_3] 61 (0, 0))) := ⟨h1_⟩
            have n2_ : Aside0 (w22.heap[gb119]? = some (.cells #[.int .i64 0, .bool false, .slice none 0 0, .slice none 0 0] 61 (0, 0))) := ⟨h2_⟩
            have n3_ : Aside0 (w22.heap[gb134]? = some (.cells #[.int .i64 0, .bool false, .slice none 0 0, .slice none 0 0] 61 (0, 0))) := ⟨h3_⟩
            have n4_ : Aside0 (w.heap.size ≤ gb134) := ⟨h4_⟩
            have n5_ : Aside0 (w.heap.size ≤ gb134) := ⟨h5_⟩
            have n6_ : Aside0 (gb118 ≠ gb134) := ⟨h6_⟩
            have n7_ : Aside0 (gb134 ≠ gb118) := ⟨h7_⟩
            have n8_ : Aside0 (gb119 ≠ gb134) := ⟨h8_⟩
            have n9_ : Aside0 (gb134 ≠ gb119) := ⟨h9_⟩
            have n10_ : Aside0 (Below w.heap.size w w22) := ⟨h10_⟩
            clear BK118
            clear BK119
            clear HB
            clear h0_ h1_ h2_ h3_ h4_ h5_ h6_ h7_ h8_ h9_ h10_
            have HO126 := n0_
            have BK118 := n1_
            have BK119 := n2_
            have BK134 := n3_
            have GW134 := n4_
            have GE134 := n5_
            have NB118_134 := n6_
            have NB134_118 := n7_
            have NB119_134 := n8_
            have NB134_119 := n9_
            have HB := n10_
            clear n0_ n1_ n2_ n3_ n4_ n5_ n6_ n7_ n8_ n9_ n10_
            have hHeld : w22.cell? ⟨gb118, 0, none⟩ = some (.int .i64 a0_0) ∧ w22.cell? ⟨gb118, 1, none⟩ = some (.bool a0_1) ∧ w22.cell? ⟨gb118, 2, none⟩ = some (.slice A0_2 l0_2.length c0_2) ∧ w22.cell? ⟨gb118, 3, none⟩ = some (.slice A0_3 l0_3.length c0_3) := hS_
            refine norm_ (a' := ?_) ?_ ?_
            rotate_left
            ·simp only [putAll, Act.put, List.setIfInBounds_toArray, List.set_cons_zero, List.set_cons_succ]
             rfl
            refine one_ (i := 14) (N := some 26) (mk 27 41943039) rfl rfl (one_of HT_.out (by kernel_rfl)) (by decide) (fun K hK => ?_)
            refine Kd.R_lit_step (Kd.int .u32) _ 145 ?hg (N := 26) ?hd (xs := ([] : List Int)) (inner := []) (ok := fun _ => True) (okp := fun _ => True) ?hr ?hp (fun _ hk => hk) trivial (Below.refl _ _) (Nat.le_refl _) (by simp) ?_; (case hd => rfl); (case hg => rfl); (case hr => first | (go_simp; done) | (go_simp; rfl)); (case hp => exact (Reps.none _ _))
            intro v128 w23 ho24 hb hg_ hnew_
            clear hg_ hnew_
            (first | rw [← Ny127.out] at ho24 | (simp only [Int.reduceToNat] at ho24; rw [← Ny127.out] at ho24))
            have n0_ := Aside0.mk (Kd.R_elder' (by (with_reducible repeat (first | apply Kd.R_alloc | apply Kd.R_drewN | apply Kd.R_drew)); exact HO126.out) (Kd.R_base ho24) hb)
            have n1_ := Aside0.mk (Kd.R_lower (Kd.R_new' ho24 (Kd.R_lt (by (with_reducible repeat (first | apply Kd.R_alloc | apply Kd.R_drewN | apply Kd.R_drew)); exact HO126.out))) (below_size (bl HB)))
            have n2_ := Aside0.mk (blk_below (g := gb118) (o := .cells #[.int .i64 a0_0, .bool a0_1, .slice A0_2 l0_2.length c0_2, .slice A0_3 l0_3.length c0_3] 61 (0, 0)) (bk BK118) hb)
            have n3_ := Aside0.mk (blk_below (g := gb119) (o := .cells #[.int .i64 0, .bool false, .slice none 0 0, .slice none 0 0] 61 (0, 0)) (bk BK119) hb)
            have n4_ := Aside0.mk (blk_below (g := gb134) (o := .cells #[.int .i64 0, .bool false, .slice none 0 0, .slice none 0 0] 61 (0, 0)) (bk BK134) hb)
            have n5_ := Aside0.mk (below_step (bl HB) hb)
            clear HO126
            clear BK118
            clear BK119
            clear BK134
            clear HB
            have HO126 := n0_
            have HO129 := n1_
            have BK118 := n2_
            have BK119 := n3_
            have BK134 := n4_
            have HB := n5_
            clear n0_ n1_ n2_ n3_ n4_ n5_
            clear hb ho24
            refine hK.out _ _ ⟨(blk_cell BK118.out 0).trans rfl, (blk_cell BK118.out 1).trans rfl, (blk_cell BK118.out 2).trans rfl, (blk_cell BK118.out 3).trans rfl⟩ (fun hHeld => ?_)
            clear hK K
            refine norm_ (a' := ?_) ?_ ?_
            rotate_left
            ·show Act.put _ (some 26) _ = _
             simp only [Act.put, List.setIfInBounds_toArray, List.set_cons_zero, List.set_cons_succ, i64_w, i32_w]
             rfl
            exact norm_ (by first | (simp only [putAll, Act.put, List.setIfInBounds_toArray, List.set_cons_zero, List.set_cons_succ]; done) | (simp only [putAll, Act.put, List.setIfInBounds_toArray, List.set_cons_zero, List.set_cons_succ]; rfl)) (hJ4_13_14_25 (v121, v125, v128, gb134) _ ⟨hHeld, (by (with_reducible repeat (first | apply Kd.R_alloc | apply Kd.R_drewN | apply Kd.R_drew)); exact Kd.R_mono HO126.out (fun _ hk => hk.2)), (by (with_reducible repeat (first | apply Kd.R_alloc | apply Kd.R_drewN | apply Kd.R_drew)); exact Kd.R_mono HO129.out (fun _ hk => hk.2)), (bk BK118), (bk BK119), (bk BK134), GW134.out, GE134.out, NB118_134.out, NB134_118.out, NB119_134.out, NB134_119.out, (bl HB)⟩)
          ·skip
           rintro ⟨v121, v125, v128⟩ w23 ⟨hS_, h0_, h1_, h2_, h3_, h4_⟩
           have n0_ : Aside0 (Kd.R (Kd.int .u32) 145 w23 w.heap.size (fun k_ => some k_ ≠ (v128 : Value).ownBlock) v125 y124) := ⟨h0_⟩
           have n1_ : Aside0 (Kd.R (Kd.int .u32) 145 w23 w.heap.size (fun k_ => some k_ ≠ (v125 : Value).ownBlock) v128 y127) := ⟨h1_⟩
           have n2_ : Aside0 (w23.heap[gb118]? = some (.cells #[.int .i64 a0_0, .bool a0_1, .slice A0_2 l0_2.length c0_2, .slice A0_3 l0_3.length c0_3] 61 (0, 0))) := ⟨h2_⟩
           have n3_ : Aside0 (w23.heap[gb119]? = some (.cells #[.int .i64 0, .bool false, .slice none 0 0, .slice none 0 0] 61 (0, 0))) := ⟨h3_⟩
           have n4_ : Aside0 (Below w.heap.size w w23) := ⟨h4_⟩
           clear BK118
           clear BK119
           clear HB
           clear h0_ h1_ h2_ h3_ h4_
           have HO126 := n0_
           have HO129 := n1_
           have BK118 := n2_
           have BK119 := n3_
           have HB := n4_
           clear n0_ n1_ n2_ n3_ n4_
           have hHeld : w23.cell? ⟨gb118, 0, none⟩ = some (.int .i64 a0_0) ∧ w23.cell? ⟨gb118, 1, none⟩ = some (.bool a0_1) ∧ w23.cell? ⟨gb118, 2, none⟩ = some (.slice A0_2 l0_2.length c0_2) ∧ w23.cell? ⟨gb118, 3, none⟩ = some (.slice A0_3 l0_3.length c0_3) := hS_
           refine norm_ (a' := ?_) ?_ ?_
           rotate_left
           ·simp only [putAll, Act.put, List.setIfInBounds_toArray, List.set_cons_zero, List.set_cons_succ]
            rfl
           refine two_ (i := 23) (j := 25) (Ni := some 35) (Nj := some 7) (mk 27 16777215) (mk 27 41943039) rfl rfl rfl rfl (two_of HT_.out (by kernel_rfl)) (by decide) (by decide) (fun K hK => ?_) (fun K hK => ?_)
           ·skip
            refine Kd.R_append_rows_step (Kd.int .u32) (w0 := w) w.heap.size (by rfl) (.tmp 26) (.tmp 34) 59 145 (.int .u32 0) 4 rfl Tryz.underlying59 info145 rfl (by decide) (by omega) v128 y127 (l0_3.take ((ji9) : Int).toNat) _ _ _ (fun k_ => some k_ ≠ (v125 : Value).ownBlock) (fun _ => False) rfl rfl ?aO ?aR (fun _ _ h => h) (fun _ h => h.elim) ?aF ?aB ?aS ?aL ?_
            (case aR => first | (have hr_ := HR130.out; rw [show (l0_3.take ((ji9) : Int).toNat).length = (ji9).toNat from (by rw [List.length_take]; have h_ : ((ji9) : Int) ≤ (l0_3.length : Int) := oa; omega)] at hr_; repeat (first | exact (Kd.C_below hr_ HB.out) | (with_reducible refine Kd.C_alloc ?_ _) | (with_reducible refine Kd.C_drewN ?_ _) | (with_reducible refine Kd.C_drew ?_)); done) | (repeat (first | exact (Kd.C_below HR130.out HB.out) | (with_reducible refine Kd.C_alloc ?_ _) | (with_reducible refine Kd.C_drewN ?_ _) | (with_reducible refine Kd.C_drew ?_))))
            (case aB => exact (bl HB))
            (case aF => exact (fun k_ hk => Kd.fresh' (Kd.R_lt (by (with_reducible repeat (first | apply Kd.R_alloc | apply Kd.R_drewN | apply Kd.R_drew)); exact HO126.out)) k_ hk))
            (case aO => exact (by (with_reducible repeat (first | apply Kd.R_alloc | apply Kd.R_drewN | apply Kd.R_drew)); exact HO129.out))
            (case aS => exact (below_size (bl HB)))
            (case aL => have := LMc12.out; have hlx_ := (show (l0_3.take ((ji9) : Int).toNat).length = (ji9).toNat from (by rw [List.length_take]; have h_ : ((ji9) : Int) ≤ (l0_3.length : Int) := oa; omega)); omega)
            intro v132 w24 ho hb hg hat
            rw [← Ny131.out] at ho
            have n0_ := Aside0.mk (blk_grown (g := gb118) (o := .cells #[.int .i64 a0_0, .bool a0_1, .slice A0_2 l0_2.length c0_2, .slice A0_3 l0_3.length c0_3] 61 (0, 0)) (bk BK118) hg (Kd.R_ne HO129.out BK118.out (by decide)))
            have n1_ := Aside0.mk (blk_grown (g := gb119) (o := .cells #[.int .i64 0, .bool false, .slice none 0 0, .slice none 0 0] 61 (0, 0)) (bk BK119) hg (Kd.R_ne HO129.out BK119.out (by decide)))
            have n2_ := Aside0.mk (Kd.R_after (ok := (fun _ => True)) (by (with_reducible repeat (first | apply Kd.R_alloc | apply Kd.R_drewN | apply Kd.R_drew)); exact Kd.R_mono HO126.out (fun _ hk => ⟨trivial, hk⟩)) hg hat)
            have n3_ := Aside0.mk (hb)
            have n4_ := Aside0.mk (ho)
            clear BK118
            clear BK119
            clear HO126
            clear HB
            clear HO129
            have BK118 := n0_
            have BK119 := n1_
            have HO126 := n2_
            have HB := n3_
            have HO133 := n4_
            clear n0_ n1_ n2_ n3_ n4_
            clear ho hb hg hat
            obtain ⟨Ao25, co25, eo25⟩ := Kd.R_slice HO133.out
            (first | subst eo25 | (injection eo25 with f1_ f2_ f3_; have f4_ := f1_.symm; have f5_ := f3_.symm; clear f1_ f2_ f3_; subst f4_; subst f5_))
            obtain ⟨Ao26, co26, eo26⟩ := Kd.R_slice HO126.out
            (first | subst eo26 | (injection eo26 with f1_ f2_ f3_; have f4_ := f1_.symm; have f5_ := f3_.symm; clear f1_ f2_ f3_; subst f4_; subst f5_))
            refine hK.out _ _ ⟨(blk_cell BK118.out 0).trans rfl, (blk_cell BK118.out 1).trans rfl, (blk_cell BK118.out 2).trans rfl, (blk_cell BK118.out 3).trans rfl⟩ (fun hHeld => ?_)
            clear hK K
            refine norm_ (a' := ?_) ?_ ?_
            rotate_left
            ·show Act.put _ (some 35) _ = _
             simp only [Act.put, List.setIfInBounds_toArray, List.set_cons_zero, List.set_cons_succ, i64_w, i32_w]
             rfl
            refine pu 24 36 (mk 27 33554431) (any_of HT_.out (by kernel_rfl)) ?_
            exact norm_ (by first | (simp only [putAll, Act.put, List.setIfInBounds_toArray, List.set_cons_zero, List.set_cons_succ]; done) | (simp only [putAll, Act.put, List.setIfInBounds_toArray, List.set_cons_zero, List.set_cons_succ]; rfl)) (hJ4_13_14_23 (v121, .slice Ao26 y124.length co26, v128, .slice Ao25 y131.length co25) _ ⟨hHeld, (by (with_reducible repeat (first | apply Kd.R_alloc | apply Kd.R_drewN | apply Kd.R_drew)); exact Kd.R_mono HO126.out (fun _ hk => hk.2)), (by (with_reducible repeat (first | apply Kd.R_alloc | apply Kd.R_drewN | apply Kd.R_drew)); exact HO133.out), (bk BK118), (bk BK119), (bl HB)⟩)
           ·skip
            refine box_step ?hg (N := 7) ?hd (cs := #[.int .i64 0, .bool false, .slice none 0 0, .slice none 0 0]) (t := 61) ?hr ?_; (case hd => rfl); (case hg => rfl); (case hr => first | (go_simp; done) | (go_simp; rfl))
            intro gb134 hg w24 hbox hb
            have n0_ := Aside0.mk (Kd.R_below (by (with_reducible repeat (first | apply Kd.R_alloc | apply Kd.R_drewN | apply Kd.R_drew)); exact HO126.out) hb)
            have n1_ := Aside0.mk (Kd.R_below (by (with_reducible repeat (first | apply Kd.R_alloc | apply Kd.R_drewN | apply Kd.R_drew)); exact HO129.out) hb)
            have n2_ := Aside0.mk (blk_below (g := gb118) (o := .cells #[.int .i64 a0_0, .bool a0_1, .slice A0_2 l0_2.length c0_2, .slice A0_3 l0_3.length c0_3] 61 (0, 0)) (bk BK118) hb)
            have n3_ := Aside0.mk (blk_below (g := gb119) (o := .cells #[.int .i64 0, .bool false, .slice none 0 0, .slice none 0 0] 61 (0, 0)) (bk BK119) hb)
            have n4_ := Aside0.mk (below_step (bl HB) hb)
            have n5_ := Aside0.mk (hbox)
            have n6_ := (gz hg HB : Aside0 (w.heap.size ≤ gb134))
            have n7_ := (gz hg HB : Aside0 (w.heap.size ≤ gb134))
            have n8_ := Aside0.mk ((by rw [hg]; exact Nat.ne_of_lt (blk_lt (g := gb118) (o := .cells #[.int .i64 a0_0, .bool a0_1, .slice A0_2 l0_2.length c0_2, .slice A0_3 l0_3.length c0_3] 61 (0, 0)) (bk BK118)) : gb118 ≠ gb134))
            have n9_ := Aside0.mk ((by rw [hg]; exact Nat.ne_of_gt (blk_lt (g := gb118) (o := .cells #[.int .i64 a0_0, .bool a0_1, .slice A0_2 l0_2.length c0_2, .slice A0_3 l0_3.length c0_3] 61 (0, 0)) (bk BK118)) : gb134 ≠ gb118))
            have n10_ := Aside0.mk ((by rw [hg]; exact Nat.ne_of_lt (blk_lt (g := gb119) (o := .cells #[.int .i64 0, .bool false, .slice none 0 0, .slice none 0 0] 61 (0, 0)) (bk BK119)) : gb119 ≠ gb134))
            have n11_ := Aside0.mk ((by rw [hg]; exact Nat.ne_of_gt (blk_lt (g := gb119) (o := .cells #[.int .i64 0, .bool false, .slice none 0 0, .slice none 0 0] 61 (0, 0)) (bk BK119)) : gb134 ≠ gb119))
            clear HO126
            clear HO129
            clear BK118
            clear BK119
            clear HB
            have HO126 := n0_
            have HO129 := n1_
            have BK118 := n2_
            have BK119 := n3_
            have HB := n4_
            have BK134 := n5_
            have GW134 := n6_
            have GE134 := n7_
            have NB118_134 := n8_
            have NB134_118 := n9_
            have NB119_134 := n10_
            have NB134_119 := n11_
            clear n0_ n1_ n2_ n3_ n4_ n5_ n6_ n7_ n8_ n9_ n10_ n11_
            clear hb hbox hg
            refine hK.out _ _ ⟨(blk_cell BK118.out 0).trans rfl, (blk_cell BK118.out 1).trans rfl, (blk_cell BK118.out 2).trans rfl, (blk_cell BK118.out 3).trans rfl⟩ (fun hHeld => ?_)
            clear hK K
            refine norm_ (a' := ?_) ?_ ?_
            rotate_left
            ·show Act.put _ (some 7) _ = _
             simp only [Act.put, List.setIfInBounds_toArray, List.set_cons_zero, List.set_cons_succ, i64_w, i32_w]
             rfl
            exact norm_ (by first | (simp only [putAll, Act.put, List.setIfInBounds_toArray, List.set_cons_zero, List.set_cons_succ]; done) | (simp only [putAll, Act.put, List.setIfInBounds_toArray, List.set_cons_zero, List.set_cons_succ]; rfl)) (hJ4_13_14_25 (v121, v125, v128, gb134) _ ⟨hHeld, (by (with_reducible repeat (first | apply Kd.R_alloc | apply Kd.R_drewN | apply Kd.R_drew)); exact HO126.out), (by (with_reducible repeat (first | apply Kd.R_alloc | apply Kd.R_drewN | apply Kd.R_drew)); exact HO129.out), (bk BK118), (bk BK119), (bk BK134), GW134.out, GE134.out, NB118_134.out, NB134_118.out, NB119_134.out, NB134_119.out, (bl HB)⟩)
         ·skip
          rintro ⟨v121, v125, v128, gb134⟩ w24 ⟨hS_, h0_, h1_, h2_, h3_, h4_, h5_, h6_, h7_, h8_, h9_, h10_, h11_⟩
          have n0_ : Aside0 (Kd.R (Kd.int .u32) 145 w24 w.heap.size (fun k_ => some k_ ≠ (v128 : Value).ownBlock) v125 y124) := ⟨h0_⟩
          have n1_ : Aside0 (Kd.R (Kd.int .u32) 145 w24 w.heap.size (fun k_ => some k_ ≠ (v125 : Value).ownBlock) v128 y127) := ⟨h1_⟩
          have n2_ : Aside0 (w24.heap[gb118]? = some (.cells #[.int .i64 a0_0, .bool a0_1, .slice A0_2 l0_2.length c0_2, .slice A0_3 l0_3.length c0_3] 61 (0, 0))) := ⟨h2_⟩
          have n3_ : Aside0 (w24.heap[gb119]? = some (.cells #[.int .i64 0, .bool false, .slice none 0 0, .slice none 0 0] 61 (0, 0))) := ⟨h3_⟩
          have n4_ : Aside0 (w24.heap[gb134]? = some (.cells #[.int .i64 0, .bool false, .slice none 0 0, .slice none 0 0] 61 (0, 0))) := ⟨h4_⟩
          have n5_ : Aside0 (w.heap.size ≤ gb134) := ⟨h5_⟩
          have n6_ : Aside0 (w.heap.size ≤ gb134) := ⟨h6_⟩
          have n7_ : Aside0 (gb118 ≠ gb134) := ⟨h7_⟩
          have n8_ : Aside0 (gb134 ≠ gb118) := ⟨h8_⟩
          have n9_ : Aside0 (gb119 ≠ gb134) := ⟨h9_⟩
          have n10_ : Aside0 (gb134 ≠ gb119) := ⟨h10_⟩
          have n11_ : Aside0 (Below w.heap.size w w24) := ⟨h11_⟩
          clear BK118
          clear BK119
          clear HB
          clear h0_ h1_ h2_ h3_ h4_ h5_ h6_ h7_ h8_ h9_ h10_ h11_
          have HO126 := n0_
          have HO129 := n1_
          have BK118 := n2_
          have BK119 := n3_
          have BK134 := n4_
          have GW134 := n5_
          have GE134 := n6_
          have NB118_134 := n7_
          have NB134_118 := n8_
          have NB119_134 := n9_
          have NB134_119 := n10_
          have HB := n11_
          clear n0_ n1_ n2_ n3_ n4_ n5_ n6_ n7_ n8_ n9_ n10_ n11_
          have hHeld : w24.cell? ⟨gb118, 0, none⟩ = some (.int .i64 a0_0) ∧ w24.cell? ⟨gb118, 1, none⟩ = some (.bool a0_1) ∧ w24.cell? ⟨gb118, 2, none⟩ = some (.slice A0_2 l0_2.length c0_2) ∧ w24.cell? ⟨gb118, 3, none⟩ = some (.slice A0_3 l0_3.length c0_3) := hS_
          refine norm_ (a' := ?_) ?_ ?_
          rotate_left
          ·simp only [putAll, Act.put, List.setIfInBounds_toArray, List.set_cons_zero, List.set_cons_succ]
           rfl
          refine one_ (i := 23) (N := some 35) (mk 27 50331647) rfl rfl (one_of HT_.out (by kernel_rfl)) (by decide) (fun K hK => ?_)
          refine Kd.R_append_rows_step (Kd.int .u32) (w0 := w) w.heap.size (by rfl) (.tmp 26) (.tmp 34) 59 145 (.int .u32 0) 4 rfl Tryz.underlying59 info145 rfl (by decide) (by omega) v128 y127 (l0_3.take ((ji9) : Int).toNat) _ _ _ (fun k_ => some k_ ≠ (v125 : Value).ownBlock) (fun _ => False) rfl rfl ?aO ?aR (fun _ _ h => h) (fun _ h => h.elim) ?aF ?aB ?aS ?aL ?_
          (case aR => first | (have hr_ := HR130.out; rw [show (l0_3.take ((ji9) : Int).toNat).length = (ji9).toNat from (by rw [List.length_take]; have h_ : ((ji9) : Int) ≤ (l0_3.length : Int) := oa; omega)] at hr_; repeat (first | exact (Kd.C_below hr_ HB.out) | (with_reducible refine Kd.C_alloc ?_ _) | (with_reducible refine Kd.C_drewN ?_ _) | (with_reducible refine Kd.C_drew ?_)); done) | (repeat (first | exact (Kd.C_below HR130.out HB.out) | (with_reducible refine Kd.C_alloc ?_ _) | (with_reducible refine Kd.C_drewN ?_ _) | (with_reducible refine Kd.C_drew ?_))))
          (case aB => exact (bl HB))
          (case aF => exact (fun k_ hk => Kd.fresh' (Kd.R_lt (by (with_reducible repeat (first | apply Kd.R_alloc | apply Kd.R_drewN | apply Kd.R_drew)); exact HO126.out)) k_ hk))
          (case aO => exact (by (with_reducible repeat (first | apply Kd.R_alloc | apply Kd.R_drewN | apply Kd.R_drew)); exact HO129.out))
          (case aS => exact (below_size (bl HB)))
          (case aL => have := LMc12.out; have hlx_ := (show (l0_3.take ((ji9) : Int).toNat).length = (ji9).toNat from (by rw [List.length_take]; have h_ : ((ji9) : Int) ≤ (l0_3.length : Int) := oa; omega)); omega)
          intro v132 w25 ho hb hg hat
          rw [← Ny131.out] at ho
          have n0_ := Aside0.mk (blk_grown (g := gb118) (o := .cells #[.int .i64 a0_0, .bool a0_1, .slice A0_2 l0_2.length c0_2, .slice A0_3 l0_3.length c0_3] 61 (0, 0)) (bk BK118) hg (Kd.R_ne HO129.out BK118.out (by decide)))
          have n1_ := Aside0.mk (blk_grown (g := gb119) (o := .cells #[.int .i64 0, .bool false, .slice none 0 0, .slice none 0 0] 61 (0, 0)) (bk BK119) hg (Kd.R_ne HO129.out BK119.out (by decide)))
          have n2_ := Aside0.mk (Kd.R_after (ok := (fun _ => True)) (by (with_reducible repeat (first | apply Kd.R_alloc | apply Kd.R_drewN | apply Kd.R_drew)); exact Kd.R_mono HO126.out (fun _ hk => ⟨trivial, hk⟩)) hg hat)
          have n3_ := Aside0.mk (blk_grown (g := gb134) (o := .cells #[.int .i64 0, .bool false, .slice none 0 0, .slice none 0 0] 61 (0, 0)) (bk BK134) hg (Kd.R_ne HO129.out BK134.out (by decide)))
          have n4_ := Aside0.mk (hb)
          have n5_ := Aside0.mk (ho)
          clear BK118
          clear BK119
          clear HO126
          clear BK134
          clear HB
          clear HO129
          have BK118 := n0_
          have BK119 := n1_
          have HO126 := n2_
          have BK134 := n3_
          have HB := n4_
          have HO133 := n5_
          clear n0_ n1_ n2_ n3_ n4_ n5_
          clear ho hb hg hat
          obtain ⟨Ao26, co26, eo26⟩ := Kd.R_slice HO133.out
          (first | subst eo26 | (injection eo26 with f1_ f2_ f3_; have f4_ := f1_.symm; have f5_ := f3_.symm; clear f1_ f2_ f3_; subst f4_; subst f5_))
          obtain ⟨Ao27, co27, eo27⟩ := Kd.R_slice HO126.out
          (first | subst eo27 | (injection eo27 with f1_ f2_ f3_; have f4_ := f1_.symm; have f5_ := f3_.symm; clear f1_ f2_ f3_; subst f4_; subst f5_))
          refine hK.out _ _ ⟨(blk_cell BK118.out 0).trans rfl, (blk_cell BK118.out 1).trans rfl, (blk_cell BK118.out 2).trans rfl, (blk_cell BK118.out 3).trans rfl⟩ (fun hHeld => ?_)
          clear hK K
          refine norm_ (a' := ?_) ?_ ?_
          rotate_left
          ·show Act.put _ (some 35) _ = _
           simp only [Act.put, List.setIfInBounds_toArray, List.set_cons_zero, List.set_cons_succ, i64_w, i32_w]
           rfl
          refine pu 24 36 (mk 27 67108863) (any_of HT_.out (by kernel_rfl)) ?_
          exact norm_ (by first | (simp only [putAll, Act.put, List.setIfInBounds_toArray, List.set_cons_zero, List.set_cons_succ]; done) | (simp only [putAll, Act.put, List.setIfInBounds_toArray, List.set_cons_zero, List.set_cons_succ]; rfl)) (hJ4_13_14_23_25 (v121, .slice Ao27 y124.length co27, v128, .slice Ao26 y131.length co26, gb134) _ ⟨hHeld, (by (with_reducible repeat (first | apply Kd.R_alloc | apply Kd.R_drewN | apply Kd.R_drew)); exact Kd.R_mono HO126.out (fun _ hk => hk.2)), (by (with_reducible repeat (first | apply Kd.R_alloc | apply Kd.R_drewN | apply Kd.R_drew)); exact HO133.out), (bk BK118), (bk BK119), (bk BK134), GW134.out, GE134.out, NB118_134.out, NB134_118.out, NB119_134.out, NB134_119.out, (bl HB)⟩)
        ·skip
         rintro ⟨v121, v125, v128, v132⟩ w26 ⟨hS_, h0_, h1_, h2_, h3_, h4_⟩
         have n0_ : Aside0 (Kd.R (Kd.int .u32) 145 w26 w.heap.size (fun k_ => some k_ ≠ (v132 : Value).ownBlock) v125 y124) := ⟨h0_⟩
         have n1_ : Aside0 (Kd.R (Kd.int .u32) 145 w26 w.heap.size (fun k_ => some k_ ≠ (v125 : Value).ownBlock) v132 y131) := ⟨h1_⟩
         have n2_ : Aside0 (w26.heap[gb118]? = some (.cells #[.int .i64 a0_0, .bool a0_1, .slice A0_2 l0_2.length c0_2, .slice A0_3 l0_3.length c0_3] 61 (0, 0))) := ⟨h2_⟩
         have n3_ : Aside0 (w26.heap[gb119]? = some (.cells #[.int .i64 0, .bool false, .slice none 0 0, .slice none 0 0] 61 (0, 0))) := ⟨h3_⟩
         have n4_ : Aside0 (Below w.heap.size w w26) := ⟨h4_⟩
         clear BK118
         clear BK119
         clear HB
         clear h0_ h1_ h2_ h3_ h4_
         have HO126 := n0_
         have HO133 := n1_
         have BK118 := n2_
         have BK119 := n3_
         have HB := n4_
         clear n0_ n1_ n2_ n3_ n4_
         have hHeld : w26.cell? ⟨gb118, 0, none⟩ = some (.int .i64 a0_0) ∧ w26.cell? ⟨gb118, 1, none⟩ = some (.bool a0_1) ∧ w26.cell? ⟨gb118, 2, none⟩ = some (.slice A0_2 l0_2.length c0_2) ∧ w26.cell? ⟨gb118, 3, none⟩ = some (.slice A0_3 l0_3.length c0_3) := hS_
         obtain ⟨Ao27, co27, eo27⟩ := Kd.R_slice HO133.out
         (first | subst eo27 | (injection eo27 with f1_ f2_ f3_; have f4_ := f1_.symm; have f5_ := f3_.symm; clear f1_ f2_ f3_; subst f4_; subst f5_))
         obtain ⟨Ao28, co28, eo28⟩ := Kd.R_slice HO126.out
         (first | subst eo28 | (injection eo28 with f1_ f2_ f3_; have f4_ := f1_.symm; have f5_ := f3_.symm; clear f1_ f2_ f3_; subst f4_; subst f5_))
         refine norm_ (a' := ?_) ?_ ?_
         rotate_left
         ·simp only [putAll, Act.put, List.setIfInBounds_toArray, List.set_cons_zero, List.set_cons_succ]
          rfl
         refine one_ (i := 25) (N := some 7) (mk 27 67108863) rfl rfl (one_of HT_.out (by kernel_rfl)) (by decide) (fun K hK => ?_)
         refine box_step ?hg (N := 7) ?hd (cs := #[.int .i64 0, .bool false, .slice none 0 0, .slice none 0 0]) (t := 61) ?hr ?_; (case hd => rfl); (case hg => rfl); (case hr => first | (go_simp; done) | (go_simp; rfl))
         intro gb134 hg w29 hbox hb
         have n0_ := Aside0.mk (Kd.R_below (by (with_reducible repeat (first | apply Kd.R_alloc | apply Kd.R_drewN | apply Kd.R_drew)); exact HO126.out) hb)
         have n1_ := Aside0.mk (Kd.R_below (by (with_reducible repeat (first | apply Kd.R_alloc | apply Kd.R_drewN | apply Kd.R_drew)); exact HO133.out) hb)
         have n2_ := Aside0.mk (blk_below (g := gb118) (o := .cells #[.int .i64 a0_0, .bool a0_1, .slice A0_2 l0_2.length c0_2, .slice A0_3 l0_3.length c0_3] 61 (0, 0)) (bk BK118) hb)
         have n3_ := Aside0.mk (blk_below (g := gb119) (o := .cells #[.int .i64 0, .bool false, .slice none 0 0, .slice none 0 0] 61 (0, 0)) (bk BK119) hb)
         have n4_ := Aside0.mk (below_step (bl HB) hb)
         have n5_ := Aside0.mk (hbox)
         have n6_ := (gz hg HB : Aside0 (w.heap.size ≤ gb134))
         have n7_ := (gz hg HB : Aside0 (w.heap.size ≤ gb134))
         have n8_ := Aside0.mk ((by rw [hg]; exact Nat.ne_of_lt (blk_lt (g := gb118) (o := .cells #[.int .i64 a0_0, .bool a0_1, .slice A0_2 l0_2.length c0_2, .slice A0_3 l0_3.length c0_3] 61 (0, 0)) (bk BK118)) : gb118 ≠ gb134))
         have n9_ := Aside0.mk ((by rw [hg]; exact Nat.ne_of_gt (blk_lt (g := gb118) (o := .cells #[.int .i64 a0_0, .bool a0_1, .slice A0_2 l0_2.length c0_2, .slice A0_3 l0_3.length c0_3] 61 (0, 0)) (bk BK118)) : gb134 ≠ gb118))
         have n10_ := Aside0.mk ((by rw [hg]; exact Nat.ne_of_lt (blk_lt (g := gb119) (o := .cells #[.int .i64 0, .bool false, .slice none 0 0, .slice none 0 0] 61 (0, 0)) (bk BK119)) : gb119 ≠ gb134))
         have n11_ := Aside0.mk ((by rw [hg]; exact Nat.ne_of_gt (blk_lt (g := gb119) (o := .cells #[.int .i64 0, .bool false, .slice none 0 0, .slice none 0 0] 61 (0, 0)) (bk BK119)) : gb134 ≠ gb119))
         clear HO126
         clear HO133
         clear BK118
         clear BK119
         clear HB
         have HO126 := n0_
         have HO133 := n1_
         have BK118 := n2_
         have BK119 := n3_
         have HB := n4_
         have BK134 := n5_
         have GW134 := n6_
         have GE134 := n7_
         have NB118_134 := n8_
         have NB134_118 := n9_
         have NB119_134 := n10_
         have NB134_119 := n11_
         clear n0_ n1_ n2_ n3_ n4_ n5_ n6_ n7_ n8_ n9_ n10_ n11_
         clear hb hbox hg
         refine hK.out _ _ ⟨(blk_cell BK118.out 0).trans rfl, (blk_cell BK118.out 1).trans rfl, (blk_cell BK118.out 2).trans rfl, (blk_cell BK118.out 3).trans rfl⟩ (fun hHeld => ?_)
         clear hK K
         refine norm_ (a' := ?_) ?_ ?_
         rotate_left
         ·show Act.put _ (some 7) _ = _
          simp only [Act.put, List.setIfInBounds_toArray, List.set_cons_zero, List.set_cons_succ, i64_w, i32_w]
          rfl
         exact norm_ (by first | (simp only [putAll, Act.put, List.setIfInBounds_toArray, List.set_cons_zero, List.set_cons_succ]; done) | (simp only [putAll, Act.put, List.setIfInBounds_toArray, List.set_cons_zero, List.set_cons_succ]; rfl)) (hJ4_13_14_23_25 (v121, .slice Ao28 y124.length co28, v128, .slice Ao27 y131.length co27, gb134) _ ⟨hHeld, (by (with_reducible repeat (first | apply Kd.R_alloc | apply Kd.R_drewN | apply Kd.R_drew)); exact HO126.out), (by (with_reducible repeat (first | apply Kd.R_alloc | apply Kd.R_drewN | apply Kd.R_drew)); exact HO133.out), (bk BK118), (bk BK119), (bk BK134), GW134.out, GE134.out, NB118_134.out, NB134_118.out, NB119_134.out, NB134_119.out, (bl HB)⟩)
       rintro ⟨v121, v125, v128, v132, gb134⟩ w27 ⟨hS_, h0_, h1_, h2_, h3_, h4_, h5_, h6_, h7_, h8_, h9_, h10_, h11_⟩
       have n0_ : Aside0 (Kd.R (Kd.int .u32) 145 w27 w.heap.size (fun k_ => some k_ ≠ (v132 : Value).ownBlock) v125 y124) := ⟨h0_⟩
       have n1_ : Aside0 (Kd.R (Kd.int .u32) 145 w27 w.heap.size (fun k_ => some k_ ≠ (v125 : Value).ownBlock) v132 y131) := ⟨h1_⟩
       have n2_ : Aside0 (w27.heap[gb118]? = some (.cells #[.int .i64 a0_0, .bool a0_1, .slice A0_2 l0_2.length c0_2, .slice A0_3 l0_3.length c0_3] 61 (0, 0))) := ⟨h2_⟩
       have n3_ : Aside0 (w27.heap[gb119]? = some (.cells #[.int .i64 0, .bool false, .slice none 0 0, .slice none 0 0] 61 (0, 0))) := ⟨h3_⟩
       have n4_ : Aside0 (w27.heap[gb134]? = some (.cells #[.int .i64 0, .bool false, .slice none 0 0, .slice none 0 0] 61 (0, 0))) := ⟨h4_⟩
       have n5_ : Aside0 (w.heap.size ≤ gb134) := ⟨h5_⟩
       have n6_ : Aside0 (w.heap.size ≤ gb134) := ⟨h6_⟩
       have n7_ : Aside0 (gb118 ≠ gb134) := ⟨h7_⟩
       have n8_ : Aside0 (gb134 ≠ gb118) := ⟨h8_⟩
       have n9_ : Aside0 (gb119 ≠ gb134) := ⟨h9_⟩
       have n10_ : Aside0 (gb134 ≠ gb119) := ⟨h10_⟩
       have n11_ : Aside0 (Below w.heap.size w w27) := ⟨h11_⟩
       clear BK118
       clear BK119
       clear HB
       clear h0_ h1_ h2_ h3_ h4_ h5_ h6_ h7_ h8_ h9_ h10_ h11_
       have HO126 := n0_
       have HO133 := n1_
       have BK118 := n2_
       have BK119 := n3_
       have BK134 := n4_
       have GW134 := n5_
       have GE134 := n6_
       have NB118_134 := n7_
       have NB134_118 := n8_
       have NB119_134 := n9_
       have NB134_119 := n10_
       have HB := n11_
       clear n0_ n1_ n2_ n3_ n4_ n5_ n6_ n7_ n8_ n9_ n10_ n11_
       have hHeld : w27.cell? ⟨gb118, 0, none⟩ = some (.int .i64 a0_0) ∧ w27.cell? ⟨gb118, 1, none⟩ = some (.bool a0_1) ∧ w27.cell? ⟨gb118, 2, none⟩ = some (.slice A0_2 l0_2.length c0_2) ∧ w27.cell? ⟨gb118, 3, none⟩ = some (.slice A0_3 l0_3.length c0_3) := hS_
       obtain ⟨Ao28, co28, eo28⟩ := Kd.R_slice HO133.out
       (first | subst eo28 | (injection eo28 with f1_ f2_ f3_; have f4_ := f1_.symm; have f5_ := f3_.symm; clear f1_ f2_ f3_; subst f4_; subst f5_))
       obtain ⟨Ao29, co29, eo29⟩ := Kd.R_slice HO126.out
       (first | subst eo29 | (injection eo29 with f1_ f2_ f3_; have f4_ := f1_.symm; have f5_ := f3_.symm; clear f1_ f2_ f3_; subst f4_; subst f5_))
       refine norm_ (a' := ?_) ?_ ?_
       rotate_left
       ·simp only [putAll, Act.put, List.setIfInBounds_toArray, List.set_cons_zero, List.set_cons_succ]
        rfl
       refine one_ (i := 26) (N := none) (mk 27 134217727) rfl rfl (one_of HT_.out (by kernel_rfl)) (by decide) (fun K hK => ?_)
       have hs30 : w27.cell? ⟨gb134, 0, none⟩ = some (.int .i64 0) := (blk_cell BK134.out 0).trans rfl
       have hfs30 := blk_frozen BK134.out 0
       have hns30_0 := NB118_134.out
       have hns30_1 := NB119_134.out
       have hms30_0 := NB134_118.out
       have hms30_1 := NB134_119.out
       have hs31 : w27.cell? ⟨gb134, 1, none⟩ = some (.bool false) := (blk_cell BK134.out 1).trans rfl
       have hfs31 := blk_frozen BK134.out 1
       have hns31_0 := NB118_134.out
       have hns31_1 := NB119_134.out
       have hms31_0 := NB134_118.out
       have hms31_1 := NB134_119.out
       have hs32 : w27.cell? ⟨gb134, 2, none⟩ = some (.slice none 0 0) := (blk_cell BK134.out 2).trans rfl
       have hfs32 := blk_frozen BK134.out 2
       have hns32_0 := NB118_134.out
       have hns32_1 := NB119_134.out
       have hms32_0 := NB134_118.out
       have hms32_1 := NB134_119.out
       have hs33 : w27.cell? ⟨gb134, 3, none⟩ = some (.slice none 0 0) := (blk_cell BK134.out 3).trans rfl
       have hfs33 := blk_frozen BK134.out 3
       have hns33_0 := NB118_134.out
       have hns33_1 := NB119_134.out
       have hms33_0 := NB134_118.out
       have hms33_1 := NB134_119.out
       refine skip_ (w1 := ?_) (by rfl) rfl ?_ ?_
       rotate_left
       ·go_simp
        rfl
       refine hK.out _ _ ⟨((cell_far (p := ⟨gb134, _, none⟩) NB118_134.out _).trans (((cell_far (p := ⟨gb134, _, none⟩) NB118_134.out _).trans (((cell_far (p := ⟨gb134, _, none⟩) NB118_134.out _).trans (((cell_far (p := ⟨gb134, _, none⟩) NB118_134.out _).trans (hHeld.1)))))))), ((cell_far (p := ⟨gb134, _, none⟩) NB118_134.out _).trans (((cell_far (p := ⟨gb134, _, none⟩) NB118_134.out _).trans (((cell_far (p := ⟨gb134, _, none⟩) NB118_134.out _).trans (((cell_far (p := ⟨gb134, _, none⟩) NB118_134.out _).trans (hHeld.2.1)))))))), ((cell_far (p := ⟨gb134, _, none⟩) NB118_134.out _).trans (((cell_far (p := ⟨gb134, _, none⟩) NB118_134.out _).trans (((cell_far (p := ⟨gb134, _, none⟩) NB118_134.out _).trans (((cell_far (p := ⟨gb134, _, none⟩) NB118_134.out _).trans (hHeld.2.2.1)))))))), ((cell_far (p := ⟨gb134, _, none⟩) NB118_134.out _).trans (((cell_far (p := ⟨gb134, _, none⟩) NB118_134.out _).trans (((cell_far (p := ⟨gb134, _, none⟩) NB118_134.out _).trans (((cell_far (p := ⟨gb134, _, none⟩) NB118_134.out _).trans (hHeld.2.2.2))))))))⟩ (fun hHeld => ?_)
       clear hK K
       refine done_ (done_of HT_.out (by kernel_rfl)) ?_
       try go_wp2
       have n0_ : Aside0 (Kd.R (Kd.int .u32) 145 ((((w27.setCell ⟨gb134, 0, none⟩ (.int .i64 a0_0)).setCell ⟨gb134, 1, none⟩ (.bool a0_1)).setCell ⟨gb134, 2, none⟩ (.slice Ao29 y124.length co29)).setCell ⟨gb134, 3, none⟩ (.slice Ao28 y131.length co28)) w.heap.size (fun k_ => some k_ ≠ (.slice Ao28 y131.length co28 : Value).ownBlock) (.slice Ao29 y124.length co29) y124) := ⟨by (with_reducible repeat (first | apply Kd.R_alloc | apply Kd.R_drewN | apply Kd.R_drew)); exact Kd.R_mono (Kd.R_far (p := ⟨gb134, 3, none⟩) (Kd.R_far (p := ⟨gb134, 2, none⟩) (Kd.R_far (p := ⟨gb134, 1, none⟩) (Kd.R_far (p := ⟨gb134, 0, none⟩) (Kd.R_types HO126.out BK134.out (by decide)) (fun _ hk => hk.2) (.int .i64 a0_0)) (fun _ hk => hk.2) (.bool a0_1)) (fun _ hk => hk.2) (.slice Ao29 y124.length co29)) (fun _ hk => hk.2) (.slice Ao28 y131.length co28)) (fun _ hk => hk.1)⟩
       have n1_ : Aside0 (Kd.R (Kd.int .u32) 145 ((((w27.setCell ⟨gb134, 0, none⟩ (.int .i64 a0_0)).setCell ⟨gb134, 1, none⟩ (.bool a0_1)).setCell ⟨gb134, 2, none⟩ (.slice Ao29 y124.length co29)).setCell ⟨gb134, 3, none⟩ (.slice Ao28 y131.length co28)) w.heap.size (fun k_ => some k_ ≠ (.slice Ao29 y124.length co29 : Value).ownBlock) (.slice Ao28 y131.length co28) y131) := ⟨by (with_reducible repeat (first | apply Kd.R_alloc | apply Kd.R_drewN | apply Kd.R_drew)); exact Kd.R_mono (Kd.R_far (p := ⟨gb134, 3, none⟩) (Kd.R_far (p := ⟨gb134, 2, none⟩) (Kd.R_far (p := ⟨gb134, 1, none⟩) (Kd.R_far (p := ⟨gb134, 0, none⟩) (Kd.R_types HO133.out BK134.out (by decide)) (fun _ hk => hk.2) (.int .i64 a0_0)) (fun _ hk => hk.2) (.bool a0_1)) (fun _ hk => hk.2) (.slice Ao29 y124.length co29)) (fun _ hk => hk.2) (.slice Ao28 y131.length co28)) (fun _ hk => hk.1)⟩
       have n2_ : Aside0 (((((w27.setCell ⟨gb134, 0, none⟩ (.int .i64 a0_0)).setCell ⟨gb134, 1, none⟩ (.bool a0_1)).setCell ⟨gb134, 2, none⟩ (.slice Ao29 y124.length co29)).setCell ⟨gb134, 3, none⟩ (.slice Ao28 y131.length co28)).heap[gb118]? = some (.cells #[.int .i64 a0_0, .bool a0_1, .slice A0_2 l0_2.length c0_2, .slice A0_3 l0_3.length c0_3] 61 (0, 0))) := ⟨by (with_reducible repeat (first | refine blk_drewN ?_ _ | refine blk_drew ?_ | refine blk_alloc ?_ _)); refine blk_far ?_ NB118_134.out _; (with_reducible repeat (first | refine blk_drewN ?_ _ | refine blk_drew ?_ | refine blk_alloc ?_ _)); refine blk_far ?_ NB118_134.out _; (with_reducible repeat (first | refine blk_drewN ?_ _ | refine blk_drew ?_ | refine blk_alloc ?_ _)); refine blk_far ?_ NB118_134.out _; (with_reducible repeat (first | refine blk_drewN ?_ _ | refine blk_drew ?_ | refine blk_alloc ?_ _)); refine blk_far ?_ NB118_134.out _; (with_reducible repeat (first | refine blk_drewN ?_ _ | refine blk_drew ?_ | refine blk_alloc ?_ _)); exact BK118.out⟩
       have n3_ : Aside0 (((((w27.setCell ⟨gb134, 0, none⟩ (.int .i64 a0_0)).setCell ⟨gb134, 1, none⟩ (.bool a0_1)).setCell ⟨gb134, 2, none⟩ (.slice Ao29 y124.length co29)).setCell ⟨gb134, 3, none⟩ (.slice Ao28 y131.length co28)).heap[gb119]? = some (.cells #[.int .i64 0, .bool false, .slice none 0 0, .slice none 0 0] 61 (0, 0))) := ⟨by (with_reducible repeat (first | refine blk_drewN ?_ _ | refine blk_drew ?_ | refine blk_alloc ?_ _)); refine blk_far ?_ NB119_134.out _; (with_reducible repeat (first | refine blk_drewN ?_ _ | refine blk_drew ?_ | refine blk_alloc ?_ _)); refine blk_far ?_ NB119_134.out _; (with_reducible repeat (first | refine blk_drewN ?_ _ | refine blk_drew ?_ | refine blk_alloc ?_ _)); refine blk_far ?_ NB119_134.out _; (with_reducible repeat (first | refine blk_drewN ?_ _ | refine blk_drew ?_ | refine blk_alloc ?_ _)); refine blk_far ?_ NB119_134.out _; (with_reducible repeat (first | refine blk_drewN ?_ _ | refine blk_drew ?_ | refine blk_alloc ?_ _)); exact BK119.out⟩
       have n4_ : Aside0 (((((w27.setCell ⟨gb134, 0, none⟩ (.int .i64 a0_0)).setCell ⟨gb134, 1, none⟩ (.bool a0_1)).setCell ⟨gb134, 2, none⟩ (.slice Ao29 y124.length co29)).setCell ⟨gb134, 3, none⟩ (.slice Ao28 y131.length co28)).heap[gb134]? = some (.cells #[.int .i64 a0_0, .bool a0_1, .slice Ao29 y124.length co29, .slice Ao28 y131.length co28] 61 (0, 0))) := ⟨by (with_reducible repeat (first | refine blk_drewN ?_ _ | refine blk_drew ?_ | refine blk_alloc ?_ _)); refine blk_put (cs := #[.int .i64 a0_0, .bool a0_1, .slice Ao29 y124.length co29, .slice none 0 0]) ?_ 3 _ rfl; (with_reducible repeat (first | refine blk_drewN ?_ _ | refine blk_drew ?_ | refine blk_alloc ?_ _)); refine blk_put (cs := #[.int .i64 a0_0, .bool a0_1, .slice none 0 0, .slice none 0 0]) ?_ 2 _ rfl; (with_reducible repeat (first | refine blk_drewN ?_ _ | refine blk_drew ?_ | refine blk_alloc ?_ _)); refine blk_put (cs := #[.int .i64 a0_0, .bool false, .slice none 0 0, .slice none 0 0]) ?_ 1 _ rfl; (with_reducible repeat (first | refine blk_drewN ?_ _ | refine blk_drew ?_ | refine blk_alloc ?_ _)); refine blk_put (cs := #[.int .i64 0, .bool false, .slice none 0 0, .slice none 0 0]) ?_ 0 _ rfl; (with_reducible repeat (first | refine blk_drewN ?_ _ | refine blk_drew ?_ | refine blk_alloc ?_ _)); exact BK134.out⟩
       have n5_ : Aside0 (Below w.heap.size w ((((w27.setCell ⟨gb134, 0, none⟩ (.int .i64 a0_0)).setCell ⟨gb134, 1, none⟩ (.bool a0_1)).setCell ⟨gb134, 2, none⟩ (.slice Ao29 y124.length co29)).setCell ⟨gb134, 3, none⟩ (.slice Ao28 y131.length co28))) := ⟨bl HB⟩
       (try clear HO126)
       (try clear HO133)
       (try clear BK118)
       (try clear BK119)
       (try clear BK134)
       (try clear HB)
       generalize ((((w27.setCell ⟨gb134, 0, none⟩ (.int .i64 a0_0)).setCell ⟨gb134, 1, none⟩ (.bool a0_1)).setCell ⟨gb134, 2, none⟩ (.slice Ao29 y124.length co29)).setCell ⟨gb134, 3, none⟩ (.slice Ao28 y131.length co28)) = w34 at n0_ n1_ n2_ n3_ n4_ n5_ ⊢
       have HO126 := n0_
       have HO133 := n1_
       have BK118 := n2_
       have BK119 := n3_
       have BK134 := n4_
       have HB := n5_
       clear n0_ n1_ n2_ n3_ n4_ n5_
       have n0_ := Aside0.mk (Kd.R_drew HO126.out)
       have n1_ := Aside0.mk (Kd.R_drew HO133.out)
       have n2_ := Aside0.mk (blk_drew BK118.out)
       have n3_ := Aside0.mk (blk_drew BK119.out)
       have n4_ := Aside0.mk (blk_drew BK134.out)
       have n5_ := Aside0.mk (below_drew1 HB.out)
       clear HO126
       clear HO133
       clear BK118
       clear BK119
       clear BK134
       clear HB
       have HO126 := n0_
       have HO133 := n1_
       have BK118 := n2_
       have BK119 := n3_
       have BK134 := n4_
       have HB := n5_
       clear n0_ n1_ n2_ n3_ n4_ n5_
       refine start_ (n := 10) (S := fun w' => w'.cell? ⟨gb134, 0, none⟩ = some (.int .i64 a0_0) ∧ w'.cell? ⟨gb134, 1, none⟩ = some (.bool a0_1) ∧ w'.cell? ⟨gb134, 2, none⟩ = some (.slice Ao29 y124.length co29) ∧ w'.cell? ⟨gb134, 3, none⟩ = some (.slice Ao28 y131.length co28)) (ds := []) (mk 10 0) (by kernel_rfl) rfl (by kernel_rfl) ⟨(blk_cell BK134.out 0).trans rfl, (blk_cell BK134.out 1).trans rfl, (blk_cell BK134.out 2).trans rfl, (blk_cell BK134.out 3).trans rfl⟩ (fun hHeld => ?_); refine with_tabW fluxionref08_CutRat.tab3 fluxionref08_CutRat.bits3 (fun HT_ HW_ => ?_)
       generalize w34.drew = w35 at HO126 HO133 BK118 BK119 BK134 HB hHeld ⊢
       refine pu 1 38 (mk 10 2) (any_of HT_.out (by kernel_rfl)) ?_
       refine pu 4 41 (mk 10 18) (any_of HT_.out (by kernel_rfl)) ?_
       refine tk 0 37 (mk 10 19) (take_ofW HT_.out HW_.out (by kernel_rfl)) hHeld ?_
       refine tk 2 39 (mk 10 23) (take_ofW HT_.out HW_.out (by kernel_rfl)) hHeld ?_
       refine pu 3 40 (mk 10 31) (any_of HT_.out (by kernel_rfl)) ?_
       refine tk 5 42 (mk 10 63) (take_ofW HT_.out HW_.out (by kernel_rfl)) hHeld ?_
       refine pu 6 43 (mk 10 127) (any_of HT_.out (by kernel_rfl)) ?_
       refine pu 7 44 (mk 10 255) (any_of HT_.out (by kernel_rfl)) ?_
       refine one_ (i := 8) (N := none) (mk 10 511) rfl rfl (one_of HT_.out (by kernel_rfl)) (by decide) (fun K hK => ?_)
       have hs36 : w35.cell? ⟨gb119, 0, none⟩ = some (.int .i64 0) := (blk_cell BK119.out 0).trans rfl
       have hfs36 := blk_frozen BK119.out 0
       have hns36_0 := NB118_119.out
       have hns36_2 := NB134_119.out
       have hms36_0 := NB119_118.out
       have hms36_2 := NB119_134.out
       have hs37 : w35.cell? ⟨gb119, 1, none⟩ = some (.bool false) := (blk_cell BK119.out 1).trans rfl
       have hfs37 := blk_frozen BK119.out 1
       have hns37_0 := NB118_119.out
       have hns37_2 := NB134_119.out
       have hms37_0 := NB119_118.out
       have hms37_2 := NB119_134.out
       have hs38 : w35.cell? ⟨gb119, 2, none⟩ = some (.slice none 0 0) := (blk_cell BK119.out 2).trans rfl
       have hfs38 := blk_frozen BK119.out 2
       have hns38_0 := NB118_119.out
       have hns38_2 := NB134_119.out
       have hms38_0 := NB119_118.out
       have hms38_2 := NB119_134.out
       have hs39 : w35.cell? ⟨gb119, 3, none⟩ = some (.slice none 0 0) := (blk_cell BK119.out 3).trans rfl
       have hfs39 := blk_frozen BK119.out 3
       have hns39_0 := NB118_119.out
       have hns39_2 := NB134_119.out
       have hms39_0 := NB119_118.out
       have hms39_2 := NB119_134.out
       refine skip_ (w1 := ?_) (by rfl) rfl ?_ ?_
       rotate_left
       ·go_simp
        rfl
       refine hK.out _ _ ⟨((cell_far (p := ⟨gb119, _, none⟩) NB134_119.out _).trans (((cell_far (p := ⟨gb119, _, none⟩) NB134_119.out _).trans (((cell_far (p := ⟨gb119, _, none⟩) NB134_119.out _).trans (((cell_far (p := ⟨gb119, _, none⟩) NB134_119.out _).trans (hHeld.1)))))))), ((cell_far (p := ⟨gb119, _, none⟩) NB134_119.out _).trans (((cell_far (p := ⟨gb119, _, none⟩) NB134_119.out _).trans (((cell_far (p := ⟨gb119, _, none⟩) NB134_119.out _).trans (((cell_far (p := ⟨gb119, _, none⟩) NB134_119.out _).trans (hHeld.2.1)))))))), ((cell_far (p := ⟨gb119, _, none⟩) NB134_119.out _).trans (((cell_far (p := ⟨gb119, _, none⟩) NB134_119.out _).trans (((cell_far (p := ⟨gb119, _, none⟩) NB134_119.out _).trans (((cell_far (p := ⟨gb119, _, none⟩) NB134_119.out _).trans (hHeld.2.2.1)))))))), ((cell_far (p := ⟨gb119, _, none⟩) NB134_119.out _).trans (((cell_far (p := ⟨gb119, _, none⟩) NB134_119.out _).trans (((cell_far (p := ⟨gb119, _, none⟩) NB134_119.out _).trans (((cell_far (p := ⟨gb119, _, none⟩) NB134_119.out _).trans (hHeld.2.2.2))))))))⟩ (fun hHeld => ?_)
       clear hK K
       refine pu 9 5 (mk 10 1023) (any_of HT_.out (by kernel_rfl)) ?_
       refine done_ (done_of HT_.out (by kernel_rfl)) ?_
       try go_wp2
       refine bodyPost_ret (results_ct rfl _ _ gb119 61 #[.int .i64 a0_0, .bool a0_1, .slice Ao29 y124.length co29, .slice Ao28 y131.length co28] (0, 0) _ rfl (by (with_reducible repeat (first | refine blk_drewN ?_ _ | refine blk_drew ?_ | refine blk_alloc ?_ _)); refine blk_put (cs := #[.int .i64 a0_0, .bool a0_1, .slice Ao29 y124.length co29, .slice none 0 0]) ?_ 3 _ rfl; (with_reducible repeat (first | refine blk_drewN ?_ _ | refine blk_drew ?_ | refine blk_alloc ?_ _)); refine blk_put (cs := #[.int .i64 a0_0, .bool a0_1, .slice none 0 0, .slice none 0 0]) ?_ 2 _ rfl; (with_reducible repeat (first | refine blk_drewN ?_ _ | refine blk_drew ?_ | refine blk_alloc ?_ _)); refine blk_put (cs := #[.int .i64 a0_0, .bool false, .slice none 0 0, .slice none 0 0]) ?_ 1 _ rfl; (with_reducible repeat (first | refine blk_drewN ?_ _ | refine blk_drew ?_ | refine blk_alloc ?_ _)); refine blk_put (cs := #[.int .i64 0, .bool false, .slice none 0 0, .slice none 0 0]) ?_ 0 _ rfl; (with_reducible repeat (first | refine blk_drewN ?_ _ | refine blk_drew ?_ | refine blk_alloc ?_ _)); exact BK119.out) Tryz.underlying61 rfl (by kernel_rfl)) rfl ?_
       exact ⟨_, _, by first | rfl | (simp [errW_none, errW_some] <;> rfl) | (simp only [← hji3, ← hji4, ← hji5, ← hji9]; first | rfl | (simp [errW_none, errW_some] <;> rfl)) | (simp [*, errW_none, errW_some] <;> rfl), by (with_reducible repeat (first | apply Kd.R_alloc | apply Kd.R_drewN | apply Kd.R_drew)); exact Kd.R_mono (Kd.R_far (p := ⟨gb119, 3, none⟩) (Kd.R_far (p := ⟨gb119, 2, none⟩) (Kd.R_far (p := ⟨gb119, 1, none⟩) (Kd.R_far (p := ⟨gb119, 0, none⟩) (Kd.R_types HO126.out BK119.out (by decide)) (fun _ hk => hk.2) (.int .i64 a0_0)) (fun _ hk => hk.2) (.bool a0_1)) (fun _ hk => hk.2) (.slice Ao29 y124.length co29)) (fun _ hk => hk.2) (.slice Ao28 y131.length co28)) (fun _ hk => hk.1), by (with_reducible repeat (first | apply Kd.R_alloc | apply Kd.R_drewN | apply Kd.R_drew)); exact Kd.R_mono (Kd.R_far (p := ⟨gb119, 3, none⟩) (Kd.R_far (p := ⟨gb119, 2, none⟩) (Kd.R_far (p := ⟨gb119, 1, none⟩) (Kd.R_far (p := ⟨gb119, 0, none⟩) (Kd.R_types HO133.out BK119.out (by decide)) (fun _ hk => hk.2) (.int .i64 a0_0)) (fun _ hk => hk.2) (.bool a0_1)) (fun _ hk => hk.2) (.slice Ao29 y124.length co29)) (fun _ hk => hk.2) (.slice Ao28 y131.length co28)) (fun _ hk => hk.1), bl HB⟩
      ·rw [if_neg c12] at H
       exact absurd H (by simp)
     ·rw [if_neg c11] at H
      exact absurd H (by simp)
    ·rw [if_neg c10] at H
     exact absurd H (by simp)
   ·rw [if_neg c8] at H
    exact absurd H (by simp)
  ·rw [if_neg c7] at H
   exact absurd H (by simp)
 ·rw [if_neg c6] at H
  exact absurd H (by simp)
end Go.Proofs.YtbkknoipgmlcmaaGreatDoor.P

