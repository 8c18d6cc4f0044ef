import Derived.Test.YtbkknoipgmlcmaaGreatDoorQSXZ
import Derived.Test.YtbkknoipgmlcmaaGreatDoorQSP0
import Derived.Test.YtbkknoipgmlcmaaGreatDoorQSP4
import Derived.Test.YtbkknoipgmlcmaaGreatDoorQSP6
import Derived.Test.YtbkknoipgmlcmaaGreatDoorQSP12
import Derived.Test.YtbkknoipgmlcmaaGreatDoorQSG
namespace Go.Proofs.YtbkknoipgmlcmaaGreatDoor.P
open Go.RowKit Go.Proofs.YtbkknoipgmlcmaaGreatDoorW.PrintWords Go.Proofs.YtbkknoipgmlcmaaGreatDoorW.PrintLast Go.Proofs.YtbkknoipgmlcmaaGreatDoorW.PrintMore
open Go.Proofs.FX
attribute [local go_sem] cell_twice le_add_cast
attribute [local go_sem] max2_int min2_int max_two min_two max_three min_three max_four min_four
set_option linter.unusedVariables false
set_option linter.unusedSimpArgs false
def slices_EqualFunc_api_Type_api_Type_api_Type_api_Type_at_code_sameType.l0 : Nat → List (S115) → List (S115) → Int → Int → Option (Bool)
 | 0, _, _, _, _ => none
 | k + 1, x1, x15, x16, x17 => if x17 < x16 then (if 0 ≤ x17 then (if x17 < (x15.length : Int) then (if x17 < (x1.length : Int) then ((code_sameType.f k ((rd_T115 x15 x17).f0) ((rd_T115 x15 x17).f1) ((rd_T115 x1 x17).f0) ((rd_T115 x1 x17).f1)).bind fun t316 => (if t316 = true then (slices_EqualFunc_api_Type_api_Type_api_Type_api_Type_at_code_sameType.l0 k x1 x15 x16 (wrap64 (x17 + 1))) else (some false))) else (none)) else (none)) else (none)) else (some true)
def slices_EqualFunc_api_Type_api_Type_api_Type_api_Type_at_code_sameType.f (k : Nat) (l0 : List (S115)) (l1 : List (S115))  : Option (Bool) := if (l0.length : Int) = (l1.length : Int) then (slices_EqualFunc_api_Type_api_Type_api_Type_api_Type_at_code_sameType.l0 k l1 l0 (l0.length : Int) 0) else (some false)
set_option maxHeartbeats 8000000 in
set_option maxRecDepth 100000 in
theorem slices_EqualFunc_api_Type_api_Type_api_Type_api_Type_at_code_sameType.calls (k : Nat) (A0 : Option Addr) (c0 : Nat) (l0 : List (S115)) (A1 : Option Addr) (c1 : Nat) (l1 : List (S115))  (r : Bool) (w : World) (hr0 : Kd.C k115 w A0 l0.length l0) (hc0 : l0.length ≤ c0) (hr1 : Kd.C k115 w A1 l1.length l1) (hc1 : l1.length ≤ c1) (h : slices_EqualFunc_api_Type_api_Type_api_Type_api_Type_at_code_sameType.f k l0 l1 = some r) :
  Calls Tryz.prog 72 #[.slice A0 l0.length c0, .slice A1 l1.length c1, .func (.func 73) #[] #[]] w fun e w' => e = .returned (.bool r) ∧ Below w.heap.size w w' := by
 have hu115 := Tryz.underlying115
 have HR0 := Aside0.mk hr0
 have HC0 := Aside0.mk hc0
 clear hr0 hc0
 have HR1 := Aside0.mk hr1
 have HC1 := Aside0.mk hc1
 clear hr1 hc1
 have HB := Aside0.mk (Below.refl w.heap.size w)
 have H : (if (l0.length : Int) = (l1.length : Int) then (slices_EqualFunc_api_Type_api_Type_api_Type_api_Type_at_code_sameType.l0 k l1 l0 (l0.length : Int) 0) else (some false)) = some r := h
 clear h
 by_cases c4 : (l0.length : Int) = (l1.length : Int)
 ·rw [if_pos c4] at H
  have c4b0 : ((l0.length : Int) == (l1.length : Int)) = true := beq_iff_eq.mpr c4
  have c4b1 : ((l0.length : Int) != (l1.length : Int)) = false := bne_eq_false_iff_eq.mpr c4
  have c4b2 : (l0.length == l1.length) = true := by first | simpa using c4 | (simp at c4 ⊢; omega)
  clear c4
  have H' := Aside0.mk H
  clear H
  go_enter Tryz.func72, Tryz.ntmps72
  go_wp2
  go_loopg [17] k (fun kq v17 w' => ∃ (x17_1 : Int), v17 = .int .i64 x17_1 ∧ Aside0 (slices_EqualFunc_api_Type_api_Type_api_Type_api_Type_at_code_sameType.l0 kq l1 l0 (l0.length : Int) x17_1 = some r) ∧ Aside0 (kq ≤ k) ∧ Aside0 (Below w.heap.size w w'))
  case atStart => exact ⟨(0), rs, H', ⟨Nat.le_refl _⟩, ⟨bl HB⟩⟩
  case round =>
   clear H'
   (try clear c1); (try clear p2); (try clear c4); (try clear c4b0); (try clear c4b1); (try clear c4b2)
   obtain ⟨x17_1, rfl, HA, HK1, HB⟩ := hrel
   cases gk with
   | zero => exact absurd HA.out (by simp [slices_EqualFunc_api_Type_api_Type_api_Type_api_Type_at_code_sameType.l0])
   | succ k1 =>
    have H := HA.out
    clear HA
    simp only [slices_EqualFunc_api_Type_api_Type_api_Type_api_Type_at_code_sameType.l0] at H
    by_cases c5 : x17_1 < (l0.length : Int)
    focus
     rw [if_pos c5] at H
     have c5b0 : decide (x17_1 < (l0.length : Int)) = true := decide_eq_true c5
     clear c5
     by_cases c6 : 0 ≤ x17_1
     focus
      rw [if_pos c6] at H
      have c6b0 : decide (0 ≤ x17_1) = true := decide_eq_true c6
      clear c6
      by_cases c7 : x17_1 < (l0.length : Int)
      focus
       rw [if_pos c7] at H
       have c7b0 : decide (x17_1 < (l0.length : Int)) = true := decide_eq_true c7
       clear c7
       by_cases c8 : x17_1 < (l1.length : Int)
       focus
        rw [if_pos c8] at H
        have c8b0 : decide (x17_1 < (l1.length : Int)) = true := decide_eq_true c8
        clear c8
        replace H := Option.bind_eq_some_iff.mp H
        obtain ⟨t316, A90, H⟩ := H
        (try dsimp only at H)
        have A9 := Aside0.mk A90
        clear A90
        by_cases c10 : t316 = true
        focus
         subst c10
         have H1 : (slices_EqualFunc_api_Type_api_Type_api_Type_api_Type_at_code_sameType.l0 k1 l1 l0 (l0.length : Int) (wrap64 (x17_1 + 1))) = some r := by rw [if_pos rfl] at H; exact H
         clear H
         have H := H1
         clear H1
         have H' := Aside0.mk H
         clear H
         have p312 : 0 ≤ (x17_1 : Int) := oa
         have q312 : x17_1 < (l0.length : Int) := oa
         obtain ⟨ad312, A312_1, c312_1, e312, hx312_0, hx312_1, hl312_1, hi312_1⟩ := at_T115 HR0.out x17_1 p312 q312
         cases e312
         replace hx312_0 := xb HB hx312_0
         replace hx312_1 := xb HB hx312_1
         have HR312_1 := Aside0.mk hi312_1
         have HC312_1 := Aside0.mk hl312_1
         clear hi312_1 hl312_1
         replace p312 := eq_true p312
         replace q312 := eq_true q312
        rotate_left 1
        focus
         replace c10 := Bool.eq_false_iff.mpr c10
         subst c10
         have H1 : (some false) = some r := by rw [if_neg (show ¬ (false = true) by decide)] at H; exact H
         clear H
         have H := H1
         clear H1
         obtain rfl := Option.some.inj H
         have p312 : 0 ≤ (x17_1 : Int) := oa
         have q312 : x17_1 < (l0.length : Int) := oa
         obtain ⟨ad312, A312_1, c312_1, e312, hx312_0, hx312_1, hl312_1, hi312_1⟩ := at_T115 HR0.out x17_1 p312 q312
         cases e312
         replace hx312_0 := xb HB hx312_0
         replace hx312_1 := xb HB hx312_1
         have HR312_1 := Aside0.mk hi312_1
         have HC312_1 := Aside0.mk hl312_1
         clear hi312_1 hl312_1
         replace p312 := eq_true p312
         replace q312 := eq_true q312
        rotate_left 1
       rotate_left 2
       focus
        rw [if_neg c8] at H
        exact absurd H (by simp)
      rotate_left 2
      focus
       rw [if_neg c7] at H
       exact absurd H (by simp)
     rotate_left 2
     focus
      rw [if_neg c6] at H
      exact absurd H (by simp)
    rotate_left 2
    focus
     rw [if_neg c5] at H
     have c5b0 : decide (x17_1 < (l0.length : Int)) = false := decide_eq_false c5
     clear c5
     obtain rfl := Option.some.inj H
     go_wp2
     go_ret
     exact ⟨re, bl HB⟩
    all_goals (go_wp2_with (first | ((with_reducible refine gate_dst (N := 8) rfl ?_); refine bx (N := 8) (cs := #[.int .i64 0, .slice none 0 0]) (t := 115) ?_; intro gb313 hg wq1 hbox hb; have BK313 := Aside0.mk (hbox); have GW313 := (gz hg HB : Aside0 (w.heap.size ≤ gb313)); have GE313 := (gz hg HB : Aside0 (w.heap.size ≤ gb313)); replace HB := Aside0.mk (below_step (bl HB) hb); clear hb hbox hg; have hczq1_0 := blk_cell BK313.out 0; have hczq1_1 := blk_cell BK313.out 1; have hfzq1_0 := blk_frozen BK313.out 0; have hfzq1_1 := blk_frozen BK313.out 1; have p314 : 0 ≤ (x17_1 : Int) := oa; have q314 : x17_1 < (l1.length : Int) := oa; obtain ⟨ad314, A314_1, c314_1, e314, hx314_0, hx314_1, hl314_1, hi314_1⟩ := at_T115 HR1.out x17_1 p314 q314; cases e314; have hn314_0 : ad314.block ≠ gb313 := hne hx314_0 GW313; have hn314_1 : ad314.block ≠ gb313 := hne hx314_0 GW313; replace hx314_0 := xb HB hx314_0; replace hx314_1 := xb HB hx314_1; have HR314_1 := Aside0.mk hi314_1; have HC314_1 := Aside0.mk hl314_1; clear hi314_1 hl314_1; have hF_ := fA hx314_0 gb313 [(0, .int .i64 ((rd_T115 l0 x17_1).f0)), (1, .slice A312_1 ((rd_T115 l0 x17_1).f1).length c312_1)]; simp only [List.foldl] at hF_; replace hx314_0 := hF_ _ _ (an hn314_0) hx314_0; replace hx314_1 := hF_ _ _ (an hn314_0) hx314_1; clear hF_; clear hn314_0; clear hn314_1; replace p314 := eq_true p314; replace q314 := eq_true q314) | ((with_reducible refine gate_dst (N := 9) rfl ?_); refine bx (N := 9) (cs := #[.int .i64 0, .slice none 0 0]) (t := 115) ?_; intro gb315 hg wq2 hbox hb; have n0_ := Aside0.mk (blk_below (g := gb313) (o := .cells #[.int .i64 ((rd_T115 l0 x17_1).f0), .slice A312_1 ((rd_T115 l0 x17_1).f1).length c312_1] 115 (0, 0)) (by (with_reducible repeat (first | refine blk_drewN ?_ _ | refine blk_drew ?_ | refine blk_alloc ?_ _)); refine blk_put (cs := #[.int .i64 ((rd_T115 l0 x17_1).f0), .slice none 0 0]) ?_ 1 _ rfl; (with_reducible repeat (first | refine blk_drewN ?_ _ | refine blk_drew ?_ | refine blk_alloc ?_ _)); refine blk_put (cs := #[.int .i64 0, .slice none 0 0]) ?_ 0 _ rfl; (with_reducible repeat (first | refine blk_drewN ?_ _ | refine blk_drew ?_ | refine blk_alloc ?_ _)); exact BK313.out) hb); have n1_ := Aside0.mk (below_step (bl HB) hb); have n2_ := Aside0.mk (hbox); have n3_ := (gz hg HB : Aside0 (w.heap.size ≤ gb315)); have n4_ := (gz hg HB : Aside0 (w.heap.size ≤ gb315)); have n5_ := Aside0.mk ((by rw [hg]; exact Nat.ne_of_lt (blk_lt (g := gb313) (o := .cells #[.int .i64 ((rd_T115 l0 x17_1).f0), .slice A312_1 ((rd_T115 l0 x17_1).f1).length c312_1] 115 (0, 0)) (by (with_reducible repeat (first | refine blk_drewN ?_ _ | refine blk_drew ?_ | refine blk_alloc ?_ _)); refine blk_put (cs := #[.int .i64 ((rd_T115 l0 x17_1).f0), .slice none 0 0]) ?_ 1 _ rfl; (with_reducible repeat (first | refine blk_drewN ?_ _ | refine blk_drew ?_ | refine blk_alloc ?_ _)); refine blk_put (cs := #[.int .i64 0, .slice none 0 0]) ?_ 0 _ rfl; (with_reducible repeat (first | refine blk_drewN ?_ _ | refine blk_drew ?_ | refine blk_alloc ?_ _)); exact BK313.out)) : gb313 ≠ gb315)); have n6_ := Aside0.mk ((by rw [hg]; exact Nat.ne_of_gt (blk_lt (g := gb313) (o := .cells #[.int .i64 ((rd_T115 l0 x17_1).f0), .slice A312_1 ((rd_T115 l0 x17_1).f1).length c312_1] 115 (0, 0)) (by (with_reducible repeat (first | refine blk_drewN ?_ _ | refine blk_drew ?_ | refine blk_alloc ?_ _)); refine blk_put (cs := #[.int .i64 ((rd_T115 l0 x17_1).f0), .slice none 0 0]) ?_ 1 _ rfl; (with_reducible repeat (first | refine blk_drewN ?_ _ | refine blk_drew ?_ | refine blk_alloc ?_ _)); refine blk_put (cs := #[.int .i64 0, .slice none 0 0]) ?_ 0 _ rfl; (with_reducible repeat (first | refine blk_drewN ?_ _ | refine blk_drew ?_ | refine blk_alloc ?_ _)); exact BK313.out)) : gb315 ≠ gb313)); clear BK313; clear HB; have BK313 := n0_; have HB := n1_; have BK315 := n2_; have GW315 := n3_; have GE315 := n4_; have NB313_315 := n5_; have NB315_313 := n6_; clear n0_ n1_ n2_ n3_ n4_ n5_ n6_; clear hb hbox hg; have hnb14 := NB315_313.out; have hnc14 := NB313_315.out; have hczq2_0 := blk_cell BK315.out 0; have hczq2_1 := blk_cell BK315.out 1; have hfzq2_0 := blk_frozen BK315.out 0; have hfzq2_1 := blk_frozen BK315.out 1; have hczq3_0 := blk_cell BK313.out 0; have hczq3_1 := blk_cell BK313.out 1; have hfzq3_0 := blk_frozen BK313.out 0; have hfzq3_1 := blk_frozen BK313.out 1) | (go_at_call 73; (with_reducible refine (code_sameType.calls k1 ((rd_T115 l0 x17_1).f0) _ _ ((rd_T115 l0 x17_1).f1) ((rd_T115 l1 x17_1).f0) _ _ ((rd_T115 l1 x17_1).f1) true _ ?side1 ?side2 ?side3 ?side4 A9.out).mono ?_); (case side1 => exact Kd.C_below HR312_1.out (bl HB)); (case side2 => exact HC312_1.out); (case side3 => exact Kd.C_below HR314_1.out (bl HB)); (case side4 => exact HC314_1.out); rintro e wq3 ⟨rfl, hb⟩; replace BK313 := Aside0.mk (blk_below (g := gb313) (o := .cells #[.int .i64 ((rd_T115 l0 x17_1).f0), .slice A312_1 ((rd_T115 l0 x17_1).f1).length c312_1] 115 (0, 0)) (by (with_reducible repeat (first | refine blk_drewN ?_ _ | refine blk_drew ?_ | refine blk_alloc ?_ _)); refine blk_far ?_ NB313_315.out _; (with_reducible repeat (first | refine blk_drewN ?_ _ | refine blk_drew ?_ | refine blk_alloc ?_ _)); refine blk_far ?_ NB313_315.out _; (with_reducible repeat (first | refine blk_drewN ?_ _ | refine blk_drew ?_ | refine blk_alloc ?_ _)); exact BK313.out) hb); replace BK315 := Aside0.mk (blk_below (g := gb315) (o := .cells #[.int .i64 ((rd_T115 l1 x17_1).f0), .slice A314_1 ((rd_T115 l1 x17_1).f1).length c314_1] 115 (0, 0)) (by (with_reducible repeat (first | refine blk_drewN ?_ _ | refine blk_drew ?_ | refine blk_alloc ?_ _)); refine blk_put (cs := #[.int .i64 ((rd_T115 l1 x17_1).f0), .slice none 0 0]) ?_ 1 _ rfl; (with_reducible repeat (first | refine blk_drewN ?_ _ | refine blk_drew ?_ | refine blk_alloc ?_ _)); refine blk_put (cs := #[.int .i64 0, .slice none 0 0]) ?_ 0 _ rfl; (with_reducible repeat (first | refine blk_drewN ?_ _ | refine blk_drew ?_ | refine blk_alloc ?_ _)); exact BK315.out) hb); replace HB := Aside0.mk (below_step (bl HB) hb); clear hb) | ((with_reducible refine gate_dst (N := 9) rfl ?_); refine bx (N := 9) (cs := #[.int .i64 0, .slice none 0 0]) (t := 115) ?_; intro gb315 hg wq2 hbox hb; have n0_ := Aside0.mk (blk_below (g := gb313) (o := .cells #[.int .i64 ((rd_T115 l0 x17_1).f0), .slice A312_1 ((rd_T115 l0 x17_1).f1).length c312_1] 115 (0, 0)) (by (with_reducible repeat (first | refine blk_drewN ?_ _ | refine blk_drew ?_ | refine blk_alloc ?_ _)); refine blk_put (cs := #[.int .i64 ((rd_T115 l0 x17_1).f0), .slice none 0 0]) ?_ 1 _ rfl; (with_reducible repeat (first | refine blk_drewN ?_ _ | refine blk_drew ?_ | refine blk_alloc ?_ _)); refine blk_put (cs := #[.int .i64 0, .slice none 0 0]) ?_ 0 _ rfl; (with_reducible repeat (first | refine blk_drewN ?_ _ | refine blk_drew ?_ | refine blk_alloc ?_ _)); exact BK313.out) hb); have n1_ := Aside0.mk (below_step (bl HB) hb); have n2_ := Aside0.mk (hbox); have n3_ := (gz hg HB : Aside0 (w.heap.size ≤ gb315)); have n4_ := (gz hg HB : Aside0 (w.heap.size ≤ gb315)); have n5_ := Aside0.mk ((by rw [hg]; exact Nat.ne_of_lt (blk_lt (g := gb313) (o := .cells #[.int .i64 ((rd_T115 l0 x17_1).f0), .slice A312_1 ((rd_T115 l0 x17_1).f1).length c312_1] 115 (0, 0)) (by (with_reducible repeat (first | refine blk_drewN ?_ _ | refine blk_drew ?_ | refine blk_alloc ?_ _)); refine blk_put (cs := #[.int .i64 ((rd_T115 l0 x17_1).f0), .slice none 0 0]) ?_ 1 _ rfl; (with_reducible repeat (first | refine blk_drewN ?_ _ | refine blk_drew ?_ | refine blk_alloc ?_ _)); refine blk_put (cs := #[.int .i64 0, .slice none 0 0]) ?_ 0 _ rfl; (with_reducible repeat (first | refine blk_drewN ?_ _ | refine blk_drew ?_ | refine blk_alloc ?_ _)); exact BK313.out)) : gb313 ≠ gb315)); have n6_ := Aside0.mk ((by rw [hg]; exact Nat.ne_of_gt (blk_lt (g := gb313) (o := .cells #[.int .i64 ((rd_T115 l0 x17_1).f0), .slice A312_1 ((rd_T115 l0 x17_1).f1).length c312_1] 115 (0, 0)) (by (with_reducible repeat (first | refine blk_drewN ?_ _ | refine blk_drew ?_ | refine blk_alloc ?_ _)); refine blk_put (cs := #[.int .i64 ((rd_T115 l0 x17_1).f0), .slice none 0 0]) ?_ 1 _ rfl; (with_reducible repeat (first | refine blk_drewN ?_ _ | refine blk_drew ?_ | refine blk_alloc ?_ _)); refine blk_put (cs := #[.int .i64 0, .slice none 0 0]) ?_ 0 _ rfl; (with_reducible repeat (first | refine blk_drewN ?_ _ | refine blk_drew ?_ | refine blk_alloc ?_ _)); exact BK313.out)) : gb315 ≠ gb313)); clear BK313; clear HB; have BK313 := n0_; have HB := n1_; have BK315 := n2_; have GW315 := n3_; have GE315 := n4_; have NB313_315 := n5_; have NB315_313 := n6_; clear n0_ n1_ n2_ n3_ n4_ n5_ n6_; clear hb hbox hg; have hnb21 := NB315_313.out; have hnc21 := NB313_315.out; have hczq2_0 := blk_cell BK315.out 0; have hczq2_1 := blk_cell BK315.out 1; have hfzq2_0 := blk_frozen BK315.out 0; have hfzq2_1 := blk_frozen BK315.out 1; have hczq3_0 := blk_cell BK313.out 0; have hczq3_1 := blk_cell BK313.out 1; have hfzq3_0 := blk_frozen BK313.out 0; have hfzq3_1 := blk_frozen BK313.out 1) | (go_at_call 73; (with_reducible refine (code_sameType.calls k1 ((rd_T115 l0 x17_1).f0) _ _ ((rd_T115 l0 x17_1).f1) ((rd_T115 l1 x17_1).f0) _ _ ((rd_T115 l1 x17_1).f1) false _ ?side1 ?side2 ?side3 ?side4 A9.out).mono ?_); (case side1 => exact Kd.C_below HR312_1.out (bl HB)); (case side2 => exact HC312_1.out); (case side3 => exact Kd.C_below HR314_1.out (bl HB)); (case side4 => exact HC314_1.out); rintro e wq3 ⟨rfl, hb⟩; replace BK313 := Aside0.mk (blk_below (g := gb313) (o := .cells #[.int .i64 ((rd_T115 l0 x17_1).f0), .slice A312_1 ((rd_T115 l0 x17_1).f1).length c312_1] 115 (0, 0)) (by (with_reducible repeat (first | refine blk_drewN ?_ _ | refine blk_drew ?_ | refine blk_alloc ?_ _)); refine blk_far ?_ NB313_315.out _; (with_reducible repeat (first | refine blk_drewN ?_ _ | refine blk_drew ?_ | refine blk_alloc ?_ _)); refine blk_far ?_ NB313_315.out _; (with_reducible repeat (first | refine blk_drewN ?_ _ | refine blk_drew ?_ | refine blk_alloc ?_ _)); exact BK313.out) hb); replace BK315 := Aside0.mk (blk_below (g := gb315) (o := .cells #[.int .i64 ((rd_T115 l1 x17_1).f0), .slice A314_1 ((rd_T115 l1 x17_1).f1).length c314_1] 115 (0, 0)) (by (with_reducible repeat (first | refine blk_drewN ?_ _ | refine blk_drew ?_ | refine blk_alloc ?_ _)); refine blk_put (cs := #[.int .i64 ((rd_T115 l1 x17_1).f0), .slice none 0 0]) ?_ 1 _ rfl; (with_reducible repeat (first | refine blk_drewN ?_ _ | refine blk_drew ?_ | refine blk_alloc ?_ _)); refine blk_put (cs := #[.int .i64 0, .slice none 0 0]) ?_ 0 _ rfl; (with_reducible repeat (first | refine blk_drewN ?_ _ | refine blk_drew ?_ | refine blk_alloc ?_ _)); exact BK315.out) hb); replace HB := Aside0.mk (below_step (bl HB) hb); clear hb)))
    ·go_roundg k1
     case measure => have := HK1.out; omega
     case rel => exact ⟨(wrap64 (x17_1 + 1)), rs, H', ⟨by have := HK1.out; omega⟩, ⟨bl HB⟩⟩
    ·go_ret
     exact ⟨re, bl HB⟩
 ·rw [if_neg c4] at H
  have c4b0 : ((l0.length : Int) == (l1.length : Int)) = false := beq_eq_false_iff_ne.mpr c4
  have c4b1 : ((l0.length : Int) != (l1.length : Int)) = true := bne_iff_ne.mpr c4
  have c4b2 : (l0.length == l1.length) = false := by first | simpa using c4 | (simp at c4 ⊢; omega)
  obtain rfl := Option.some.inj H
  go_enter Tryz.func72, Tryz.ntmps72
  go_wp2
  go_ret
  exact ⟨re, bl HB⟩
def slices_EqualFunc_api_Ins_api_Ins_api_Ins_api_Ins_at_code_sameIns.l0 : Nat → List (S63) → List (S63) → Int → Int → Option (Bool)
 | 0, _, _, _, _ => none
 | k + 1, x1, x15, x16, x17 => if x17 < x16 then (if 0 ≤ x17 then (if x17 < (x15.length : Int) then (if x17 < (x1.length : Int) then ((code_sameIns.f k ((rd_T63 x15 x17).f0) ((rd_T63 x15 x17).f1) ((rd_T63 x15 x17).f2) ((rd_T63 x15 x17).f3) ((rd_T63 x15 x17).f4.f0) ((rd_T63 x15 x17).f4.f1) ((rd_T63 x15 x17).f4.f2) ((rd_T63 x15 x17).f4.f3) ((rd_T63 x1 x17).f0) ((rd_T63 x1 x17).f1) ((rd_T63 x1 x17).f2) ((rd_T63 x1 x17).f3) ((rd_T63 x1 x17).f4.f0) ((rd_T63 x1 x17).f4.f1) ((rd_T63 x1 x17).f4.f2) ((rd_T63 x1 x17).f4.f3)).bind fun t321 => (if t321 = true then (slices_EqualFunc_api_Ins_api_Ins_api_Ins_api_Ins_at_code_sameIns.l0 k x1 x15 x16 (wrap64 (x17 + 1))) else (some false))) else (none)) else (none)) else (none)) else (some true)
def slices_EqualFunc_api_Ins_api_Ins_api_Ins_api_Ins_at_code_sameIns.f (k : Nat) (l0 : List (S63)) (l1 : List (S63))  : Option (Bool) := if (l0.length : Int) = (l1.length : Int) then (slices_EqualFunc_api_Ins_api_Ins_api_Ins_api_Ins_at_code_sameIns.l0 k l1 l0 (l0.length : Int) 0) else (some false)
set_option maxHeartbeats 8000000 in
set_option maxRecDepth 100000 in
theorem slices_EqualFunc_api_Ins_api_Ins_api_Ins_api_Ins_at_code_sameIns.calls (k : Nat) (A0 : Option Addr) (c0 : Nat) (l0 : List (S63)) (A1 : Option Addr) (c1 : Nat) (l1 : List (S63))  (r : Bool) (w : World) (hr0 : Kd.C k63 w A0 l0.length l0) (hc0 : l0.length ≤ c0) (hr1 : Kd.C k63 w A1 l1.length l1) (hc1 : l1.length ≤ c1) (h : slices_EqualFunc_api_Ins_api_Ins_api_Ins_api_Ins_at_code_sameIns.f k l0 l1 = some r) :
  Calls Tryz.prog 74 #[.slice A0 l0.length c0, .slice A1 l1.length c1, .func (.func 75) #[] #[]] w fun e w' => e = .returned (.bool r) ∧ Below w.heap.size w w' := by
 have hu63 := Tryz.underlying63
 have HR0 := Aside0.mk hr0
 have HC0 := Aside0.mk hc0
 clear hr0 hc0
 have HR1 := Aside0.mk hr1
 have HC1 := Aside0.mk hc1
 clear hr1 hc1
 have HB := Aside0.mk (Below.refl w.heap.size w)
 have H : (if (l0.length : Int) = (l1.length : Int) then (slices_EqualFunc_api_Ins_api_Ins_api_Ins_api_Ins_at_code_sameIns.l0 k l1 l0 (l0.length : Int) 0) else (some false)) = some r := h
 clear h
 by_cases c4 : (l0.length : Int) = (l1.length : Int)
 ·rw [if_pos c4] at H
  have c4b0 : ((l0.length : Int) == (l1.length : Int)) = true := beq_iff_eq.mpr c4
  have c4b1 : ((l0.length : Int) != (l1.length : Int)) = false := bne_eq_false_iff_eq.mpr c4
  have c4b2 : (l0.length == l1.length) = true := by first | simpa using c4 | (simp at c4 ⊢; omega)
  clear c4
  have H' := Aside0.mk H
  clear H
  go_enter Tryz.func74, Tryz.ntmps74
  go_wp2
  go_loopg [17] k (fun kq v17 w' => ∃ (x17_1 : Int), v17 = .int .i64 x17_1 ∧ Aside0 (slices_EqualFunc_api_Ins_api_Ins_api_Ins_api_Ins_at_code_sameIns.l0 kq l1 l0 (l0.length : Int) x17_1 = some r) ∧ Aside0 (kq ≤ k) ∧ Aside0 (Below w.heap.size w w'))
  case atStart => exact ⟨(0), rs, H', ⟨Nat.le_refl _⟩, ⟨bl HB⟩⟩
  case round =>
   clear H'
   (try clear c1); (try clear p2); (try clear c4); (try clear c4b0); (try clear c4b1); (try clear c4b2)
   obtain ⟨x17_1, rfl, HA, HK1, HB⟩ := hrel
   cases gk with
   | zero => exact absurd HA.out (by simp [slices_EqualFunc_api_Ins_api_Ins_api_Ins_api_Ins_at_code_sameIns.l0])
   | succ k1 =>
    have H := HA.out
    clear HA
    simp only [slices_EqualFunc_api_Ins_api_Ins_api_Ins_api_Ins_at_code_sameIns.l0] at H
    by_cases c5 : x17_1 < (l0.length : Int)
    focus
     rw [if_pos c5] at H
     have c5b0 : decide (x17_1 < (l0.length : Int)) = true := decide_eq_true c5
     clear c5
     by_cases c6 : 0 ≤ x17_1
     focus
      rw [if_pos c6] at H
      have c6b0 : decide (0 ≤ x17_1) = true := decide_eq_true c6
      clear c6
      by_cases c7 : x17_1 < (l0.length : Int)
      focus
       rw [if_pos c7] at H
       have c7b0 : decide (x17_1 < (l0.length : Int)) = true := decide_eq_true c7
       clear c7
       by_cases c8 : x17_1 < (l1.length : Int)
       focus
        rw [if_pos c8] at H
        have c8b0 : decide (x17_1 < (l1.length : Int)) = true := decide_eq_true c8
        clear c8
        replace H := Option.bind_eq_some_iff.mp H
        obtain ⟨t321, A90, H⟩ := H
        (try dsimp only at H)
        have A9 := Aside0.mk A90
        clear A90
        by_cases c10 : t321 = true
        focus
         subst c10
         have H1 : (slices_EqualFunc_api_Ins_api_Ins_api_Ins_api_Ins_at_code_sameIns.l0 k1 l1 l0 (l0.length : Int) (wrap64 (x17_1 + 1))) = some r := by rw [if_pos rfl] at H; exact H
         clear H
         have H := H1
         clear H1
         have H' := Aside0.mk H
         clear H
         have p317 : 0 ≤ (x17_1 : Int) := oa
         have q317 : x17_1 < (l0.length : Int) := oa
         obtain ⟨ad317, A317_6, c317_6, A317_7, c317_7, e317, hx317_0, hx317_1, hx317_2, hx317_3, hx317_4, hx317_5, hx317_6, hx317_7, hl317_6, hi317_6, hl317_7, hi317_7⟩ := at_T63 HR0.out x17_1 p317 q317
         cases e317
         replace hx317_0 := xb HB hx317_0
         replace hx317_1 := xb HB hx317_1
         replace hx317_2 := xb HB hx317_2
         replace hx317_3 := xb HB hx317_3
         replace hx317_4 := xb HB hx317_4
         replace hx317_5 := xb HB hx317_5
         replace hx317_6 := xb HB hx317_6
         replace hx317_7 := xb HB hx317_7
         have HR317_6 := Aside0.mk hi317_6
         have HC317_6 := Aside0.mk hl317_6
         clear hi317_6 hl317_6
         have HR317_7 := Aside0.mk hi317_7
         have HC317_7 := Aside0.mk hl317_7
         clear hi317_7 hl317_7
         replace p317 := eq_true p317
         replace q317 := eq_true q317
        rotate_left 1
        focus
         replace c10 := Bool.eq_false_iff.mpr c10
         subst c10
         have H1 : (some false) = some r := by rw [if_neg (show ¬ (false = true) by decide)] at H; exact H
         clear H
         have H := H1
         clear H1
         obtain rfl := Option.some.inj H
         have p317 : 0 ≤ (x17_1 : Int) := oa
         have q317 : x17_1 < (l0.length : Int) := oa
         obtain ⟨ad317, A317_6, c317_6, A317_7, c317_7, e317, hx317_0, hx317_1, hx317_2, hx317_3, hx317_4, hx317_5, hx317_6, hx317_7, hl317_6, hi317_6, hl317_7, hi317_7⟩ := at_T63 HR0.out x17_1 p317 q317
         cases e317
         replace hx317_0 := xb HB hx317_0
         replace hx317_1 := xb HB hx317_1
         replace hx317_2 := xb HB hx317_2
         replace hx317_3 := xb HB hx317_3
         replace hx317_4 := xb HB hx317_4
         replace hx317_5 := xb HB hx317_5
         replace hx317_6 := xb HB hx317_6
         replace hx317_7 := xb HB hx317_7
         have HR317_6 := Aside0.mk hi317_6
         have HC317_6 := Aside0.mk hl317_6
         clear hi317_6 hl317_6
         have HR317_7 := Aside0.mk hi317_7
         have HC317_7 := Aside0.mk hl317_7
         clear hi317_7 hl317_7
         replace p317 := eq_true p317
         replace q317 := eq_true q317
        rotate_left 1
       rotate_left 2
       focus
        rw [if_neg c8] at H
        exact absurd H (by simp)
      rotate_left 2
      focus
       rw [if_neg c7] at H
       exact absurd H (by simp)
     rotate_left 2
     focus
      rw [if_neg c6] at H
      exact absurd H (by simp)
    rotate_left 2
    focus
     rw [if_neg c5] at H
     have c5b0 : decide (x17_1 < (l0.length : Int)) = false := decide_eq_false c5
     clear c5
     obtain rfl := Option.some.inj H
     go_wp2
     go_ret
     exact ⟨re, bl HB⟩
    all_goals (go_wp2_with (first | ((with_reducible refine gate_dst (N := 8) rfl ?_); refine bx (N := 8) (cs := #[.int .i64 0, .int .i64 0, .int .i64 0, .int .i64 0, .int .i64 0, .bool false, .slice none 0 0, .slice none 0 0]) (t := 63) ?_; intro gb318 hg wq1 hbox hb; have BK318 := Aside0.mk (hbox); have GW318 := (gz hg HB : Aside0 (w.heap.size ≤ gb318)); have GE318 := (gz hg HB : Aside0 (w.heap.size ≤ gb318)); replace HB := Aside0.mk (below_step (bl HB) hb); clear hb hbox hg; have hczq1_0 := blk_cell BK318.out 0; have hczq1_1 := blk_cell BK318.out 1; have hczq1_2 := blk_cell BK318.out 2; have hczq1_3 := blk_cell BK318.out 3; have hczq1_4 := blk_cell BK318.out 4; have hczq1_5 := blk_cell BK318.out 5; have hczq1_6 := blk_cell BK318.out 6; have hczq1_7 := blk_cell BK318.out 7; have hfzq1_0 := blk_frozen BK318.out 0; have hfzq1_1 := blk_frozen BK318.out 1; have hfzq1_2 := blk_frozen BK318.out 2; have hfzq1_3 := blk_frozen BK318.out 3; have hfzq1_4 := blk_frozen BK318.out 4; have hfzq1_5 := blk_frozen BK318.out 5; have hfzq1_6 := blk_frozen BK318.out 6; have hfzq1_7 := blk_frozen BK318.out 7; have p319 : 0 ≤ (x17_1 : Int) := oa; have q319 : x17_1 < (l1.length : Int) := oa; obtain ⟨ad319, A319_6, c319_6, A319_7, c319_7, e319, hx319_0, hx319_1, hx319_2, hx319_3, hx319_4, hx319_5, hx319_6, hx319_7, hl319_6, hi319_6, hl319_7, hi319_7⟩ := at_T63 HR1.out x17_1 p319 q319; cases e319; have hn319_0 : ad319.block ≠ gb318 := hne hx319_0 GW318; have hn319_1 : ad319.block ≠ gb318 := hne hx319_0 GW318; have hn319_2 : ad319.block ≠ gb318 := hne hx319_0 GW318; have hn319_3 : ad319.block ≠ gb318 := hne hx319_0 GW318; have hn319_4 : ad319.block ≠ gb318 := hne hx319_0 GW318; have hn319_5 : ad319.block ≠ gb318 := hne hx319_0 GW318; have hn319_6 : ad319.block ≠ gb318 := hne hx319_0 GW318; have hn319_7 : ad319.block ≠ gb318 := hne hx319_0 GW318; replace hx319_0 := xb HB hx319_0; replace hx319_1 := xb HB hx319_1; replace hx319_2 := xb HB hx319_2; replace hx319_3 := xb HB hx319_3; replace hx319_4 := xb HB hx319_4; replace hx319_5 := xb HB hx319_5; replace hx319_6 := xb HB hx319_6; replace hx319_7 := xb HB hx319_7; have HR319_6 := Aside0.mk hi319_6; have HC319_6 := Aside0.mk hl319_6; clear hi319_6 hl319_6; have HR319_7 := Aside0.mk hi319_7; have HC319_7 := Aside0.mk hl319_7; clear hi319_7 hl319_7; have hF_ := fA hx319_0 gb318 [(0, .int .i64 ((rd_T63 l0 x17_1).f0)), (1, .int .i64 ((rd_T63 l0 x17_1).f1)), (2, .int .i64 ((rd_T63 l0 x17_1).f2)), (3, .int .i64 ((rd_T63 l0 x17_1).f3)), (4, .int .i64 ((rd_T63 l0 x17_1).f4.f0)), (5, .bool ((rd_T63 l0 x17_1).f4.f1)), (6, .slice A317_6 ((rd_T63 l0 x17_1).f4.f2).length c317_6), (7, .slice A317_7 ((rd_T63 l0 x17_1).f4.f3).length c317_7)]; simp only [List.foldl] at hF_; replace hx319_0 := hF_ _ _ (an hn319_0) hx319_0; replace hx319_1 := hF_ _ _ (an hn319_0) hx319_1; replace hx319_2 := hF_ _ _ (an hn319_0) hx319_2; replace hx319_3 := hF_ _ _ (an hn319_0) hx319_3; replace hx319_4 := hF_ _ _ (an hn319_0) hx319_4; replace hx319_5 := hF_ _ _ (an hn319_0) hx319_5; replace hx319_6 := hF_ _ _ (an hn319_0) hx319_6; replace hx319_7 := hF_ _ _ (an hn319_0) hx319_7; clear hF_; clear hn319_0; clear hn319_1; clear hn319_2; clear hn319_3; clear hn319_4; clear hn319_5; clear hn319_6; clear hn319_7; replace p319 := eq_true p319; replace q319 := eq_true q319) | ((with_reducible refine gate_dst (N := 9) rfl ?_); refine bx (N := 9) (cs := #[.int .i64 0, .int .i64 0, .int .i64 0, .int .i64 0, .int .i64 0, .bool false, .slice none 0 0, .slice none 0 0]) (t := 63) ?_; intro gb320 hg wq2 hbox hb; have n0_ := Aside0.mk (blk_below (g := gb318) (o := .cells #[.int .i64 ((rd_T63 l0 x17_1).f0), .int .i64 ((rd_T63 l0 x17_1).f1), .int .i64 ((rd_T63 l0 x17_1).f2), .int .i64 ((rd_T63 l0 x17_1).f3), .int .i64 ((rd_T63 l0 x17_1).f4.f0), .bool ((rd_T63 l0 x17_1).f4.f1), .slice A317_6 ((rd_T63 l0 x17_1).f4.f2).length c317_6, .slice A317_7 ((rd_T63 l0 x17_1).f4.f3).length c317_7] 63 (0, 0)) (by (with_reducible repeat (first | refine blk_drewN ?_ _ | refine blk_drew ?_ | refine blk_alloc ?_ _)); refine blk_put (cs := #[.int .i64 ((rd_T63 l0 x17_1).f0), .int .i64 ((rd_T63 l0 x17_1).f1), .int .i64 ((rd_T63 l0 x17_1).f2), .int .i64 ((rd_T63 l0 x17_1).f3), .int .i64 ((rd_T63 l0 x17_1).f4.f0), .bool ((rd_T63 l0 x17_1).f4.f1), .slice A317_6 ((rd_T63 l0 x17_1).f4.f2).length c317_6, .slice none 0 0]) ?_ 7 _ rfl; (with_reducible repeat (first | refine blk_drewN ?_ _ | refine blk_drew ?_ | refine blk_alloc ?_ _)); refine blk_put (cs := #[.int .i64 ((rd_T63 l0 x17_1).f0), .int .i64 ((rd_T63 l0 x17_1).f1), .int .i64 ((rd_T63 l0 x17_1).f2), .int .i64 ((rd_T63 l0 x17_1).f3), .int .i64 ((rd_T63 l0 x17_1).f4.f0), .bool ((rd_T63 l0 x17_1).f4.f1), .slice none 0 0, .slice none 0 0]) ?_ 6 _ rfl; (with_reducible repeat (first | refine blk_drewN ?_ _ | refine blk_drew ?_ | refine blk_alloc ?_ _)); refine blk_put (cs := #[.int .i64 ((rd_T63 l0 x17_1).f0), .int .i64 ((rd_T63 l0 x17_1).f1), .int .i64 ((rd_T63 l0 x17_1).f2), .int .i64 ((rd_T63 l0 x17_1).f3), .int .i64 ((rd_T63 l0 x17_1).f4.f0), .bool false, .slice none 0 0, .slice none 0 0]) ?_ 5 _ rfl; (with_reducible repeat (first | refine blk_drewN ?_ _ | refine blk_drew ?_ | refine blk_alloc ?_ _)); refine blk_put (cs := #[.int .i64 ((rd_T63 l0 x17_1).f0), .int .i64 ((rd_T63 l0 x17_1).f1), .int .i64 ((rd_T63 l0 x17_1).f2), .int .i64 ((rd_T63 l0 x17_1).f3), .int .i64 0, .bool false, .slice none 0 0, .slice none 0 0]) ?_ 4 _ rfl; (with_reducible repeat (first | refine blk_drewN ?_ _ | refine blk_drew ?_ | refine blk_alloc ?_ _)); refine blk_put (cs := #[.int .i64 ((rd_T63 l0 x17_1).f0), .int .i64 ((rd_T63 l0 x17_1).f1), .int .i64 ((rd_T63 l0 x17_1).f2), .int .i64 0, .int .i64 0, .bool false, .slice none 0 0, .slice none 0 0]) ?_ 3 _ rfl; (with_reducible repeat (first | refine blk_drewN ?_ _ | refine blk_drew ?_ | refine blk_alloc ?_ _)); refine blk_put (cs := #[.int .i64 ((rd_T63 l0 x17_1).f0), .int .i64 ((rd_T63 l0 x17_1).f1), .int .i64 0, .int .i64 0, .int .i64 0, .bool false, .slice none 0 0, .slice none 0 0]) ?_ 2 _ rfl; (with_reducible repeat (first | refine blk_drewN ?_ _ | refine blk_drew ?_ | refine blk_alloc ?_ _)); refine blk_put (cs := #[.int .i64 ((rd_T63 l0 x17_1).f0), .int .i64 0, .int .i64 0, .int .i64 0, .int .i64 0, .bool false, .slice none 0 0, .slice none 0 0]) ?_ 1 _ rfl; (with_reducible repeat (first | refine blk_drewN ?_ _ | refine blk_drew ?_ | refine blk_alloc ?_ _)); refine blk_put (cs := #[.int .i64 0, .int .i64 0, .int .i64 0, .int .i64 0, .int .i64 0, .bool false, .slice none 0 0, .slice none 0 0]) ?_ 0 _ rfl; (with_reducible repeat (first | refine blk_drewN ?_ _ | refine blk_drew ?_ | refine blk_alloc ?_ _)); exact BK318.out) hb); have n1_ := Aside0.mk (below_step (bl HB) hb); have n2_ := Aside0.mk (hbox); have n3_ := (gz hg HB : Aside0 (w.heap.size ≤ gb320)); have n4_ := (gz hg HB : Aside0 (w.heap.size ≤ gb320)); have n5_ := Aside0.mk ((by rw [hg]; exact Nat.ne_of_lt (blk_lt (g := gb318) (o := .cells #[.int .i64 ((rd_T63 l0 x17_1).f0), .int .i64 ((rd_T63 l0 x17_1).f1), .int .i64 ((rd_T63 l0 x17_1).f2), .int .i64 ((rd_T63 l0 x17_1).f3), .int .i64 ((rd_T63 l0 x17_1).f4.f0), .bool ((rd_T63 l0 x17_1).f4.f1), .slice A317_6 ((rd_T63 l0 x17_1).f4.f2).length c317_6, .slice A317_7 ((rd_T63 l0 x17_1).f4.f3).length c317_7] 63 (0, 0)) (by (with_reducible repeat (first | refine blk_drewN ?_ _ | refine blk_drew ?_ | refine blk_alloc ?_ _)); refine blk_put (cs := #[.int .i64 ((rd_T63 l0 x17_1).f0), .int .i64 ((rd_T63 l0 x17_1).f1), .int .i64 ((rd_T63 l0 x17_1).f2), .int .i64 ((rd_T63 l0 x17_1).f3), .int .i64 ((rd_T63 l0 x17_1).f4.f0), .bool ((rd_T63 l0 x17_1).f4.f1), .slice A317_6 ((rd_T63 l0 x17_1).f4.f2).length c317_6, .slice none 0 0]) ?_ 7 _ rfl; (with_reducible repeat (first | refine blk_drewN ?_ _ | refine blk_drew ?_ | refine blk_alloc ?_ _)); refine blk_put (cs := #[.int .i64 ((rd_T63 l0 x17_1).f0), .int .i64 ((rd_T63 l0 x17_1).f1), .int .i64 ((rd_T63 l0 x17_1).f2), .int .i64 ((rd_T63 l0 x17_1).f3), .int .i64 ((rd_T63 l0 x17_1).f4.f0), .bool ((rd_T63 l0 x17_1).f4.f1), .slice none 0 0, .slice none 0 0]) ?_ 6 _ rfl; (with_reducible repeat (first | refine blk_drewN ?_ _ | refine blk_drew ?_ | refine blk_alloc ?_ _)); refine blk_put (cs := #[.int .i64 ((rd_T63 l0 x17_1).f0), .int .i64 ((rd_T63 l0 x17_1).f1), .int .i64 ((rd_T63 l0 x17_1).f2), .int .i64 ((rd_T63 l0 x17_1).f3), .int .i64 ((rd_T63 l0 x17_1).f4.f0), .bool false, .slice none 0 0, .slice none 0 0]) ?_ 5 _ rfl; (with_reducible repeat (first | refine blk_drewN ?_ _ | refine blk_drew ?_ | refine blk_alloc ?_ _)); refine blk_put (cs := #[.int .i64 ((rd_T63 l0 x17_1).f0), .int .i64 ((rd_T63 l0 x17_1).f1), .int .i64 ((rd_T63 l0 x17_1).f2), .int .i64 ((rd_T63 l0 x17_1).f3), .int .i64 0, .bool false, .slice none 0 0, .slice none 0 0]) ?_ 4 _ rfl; (with_reducible repeat (first | refine blk_drewN ?_ _ | refine blk_drew ?_ | refine blk_alloc ?_ _)); refine blk_put (cs := #[.int .i64 ((rd_T63 l0 x17_1).f0), .int .i64 ((rd_T63 l0 x17_1).f1), .int .i64 ((rd_T63 l0 x17_1).f2), .int .i64 0, .int .i64 0, .bool false, .slice none 0 0, .slice none 0 0]) ?_ 3 _ rfl; (with_reducible repeat (first | refine blk_drewN ?_ _ | refine blk_drew ?_ | refine blk_alloc ?_ _)); refine blk_put (cs := #[.int .i64 ((rd_T63 l0 x17_1).f0), .int .i64 ((rd_T63 l0 x17_1).f1), .int .i64 0, .int .i64 0, .int .i64 0, .bool false, .slice none 0 0, .slice none 0 0]) ?_ 2 _ rfl; (with_reducible repeat (first | refine blk_drewN ?_ _ | refine blk_drew ?_ | refine blk_alloc ?_ _)); refine blk_put (cs := #[.int .i64 ((rd_T63 l0 x17_1).f0), .int .i64 0, .int .i64 0, .int .i64 0, .int .i64 0, .bool false, .slice none 0 0, .slice none 0 0]) ?_ 1 _ rfl; (with_reducible repeat (first | refine blk_drewN ?_ _ | refine blk_drew ?_ | refine blk_alloc ?_ _)); refine blk_put (cs := #[.int .i64 0, .int .i64 0, .int .i64 0, .int .i64 0, .int .i64 0, .bool false, .slice none 0 0, .slice none 0 0]) ?_ 0 _ rfl; (with_reducible repeat (first | refine blk_drewN ?_ _ | refine blk_drew ?_ | refine blk_alloc ?_ _)); exact BK318.out)) : gb318 ≠ gb320)); have n6_ := Aside0.mk ((by rw [hg]; exact Nat.ne_of_gt (blk_lt (g := gb318) (o := .cells #[.int .i64 ((rd_T63 l0 x17_1).f0), .int .i64 ((rd_T63 l0 x17_1).f1), .int .i64 ((rd_T63 l0 x17_1).f2), .int .i64 ((rd_T63 l0 x17_1).f3), .int .i64 ((rd_T63 l0 x17_1).f4.f0), .bool ((rd_T63 l0 x17_1).f4.f1), .slice A317_6 ((rd_T63 l0 x17_1).f4.f2).length c317_6, .slice A317_7 ((rd_T63 l0 x17_1).f4.f3).length c317_7] 63 (0, 0)) (by (with_reducible repeat (first | refine blk_drewN ?_ _ | refine blk_drew ?_ | refine blk_alloc ?_ _)); refine blk_put (cs := #[.int .i64 ((rd_T63 l0 x17_1).f0), .int .i64 ((rd_T63 l0 x17_1).f1), .int .i64 ((rd_T63 l0 x17_1).f2), .int .i64 ((rd_T63 l0 x17_1).f3), .int .i64 ((rd_T63 l0 x17_1).f4.f0), .bool ((rd_T63 l0 x17_1).f4.f1), .slice A317_6 ((rd_T63 l0 x17_1).f4.f2).length c317_6, .slice none 0 0]) ?_ 7 _ rfl; (with_reducible repeat (first | refine blk_drewN ?_ _ | refine blk_drew ?_ | refine blk_alloc ?_ _)); refine blk_put (cs := #[.int .i64 ((rd_T63 l0 x17_1).f0), .int .i64 ((rd_T63 l0 x17_1).f1), .int .i64 ((rd_T63 l0 x17_1).f2), .int .i64 ((rd_T63 l0 x17_1).f3), .int .i64 ((rd_T63 l0 x17_1).f4.f0), .bool ((rd_T63 l0 x17_1).f4.f1), .slice none 0 0, .slice none 0 0]) ?_ 6 _ rfl; (with_reducible repeat (first | refine blk_drewN ?_ _ | refine blk_drew ?_ | refine blk_alloc ?_ _)); refine blk_put (cs := #[.int .i64 ((rd_T63 l0 x17_1).f0), .int .i64 ((rd_T63 l0 x17_1).f1), .int .i64 ((rd_T63 l0 x17_1).f2), .int .i64 ((rd_T63 l0 x17_1).f3), .int .i64 ((rd_T63 l0 x17_1).f4.f0), .bool false, .slice none 0 0, .slice none 0 0]) ?_ 5 _ rfl; (with_reducible repeat (first | refine blk_drewN ?_ _ | refine blk_drew ?_ | refine blk_alloc ?_ _)); refine blk_put (cs := #[.int .i64 ((rd_T63 l0 x17_1).f0), .int .i64 ((rd_T63 l0 x17_1).f1), .int .i64 ((rd_T63 l0 x17_1).f2), .int .i64 ((rd_T63 l0 x17_1).f3), .int .i64 0, .bool false, .slice none 0 0, .slice none 0 0]) ?_ 4 _ rfl; (with_reducible repeat (first | refine blk_drewN ?_ _ | refine blk_drew ?_ | refine blk_alloc ?_ _)); refine blk_put (cs := #[.int .i64 ((rd_T63 l0 x17_1).f0), .int .i64 ((rd_T63 l0 x17_1).f1), .int .i64 ((rd_T63 l0 x17_1).f2), .int .i64 0, .int .i64 0, .bool false, .slice none 0 0, .slice none 0 0]) ?_ 3 _ rfl; (with_reducible repeat (first | refine blk_drewN ?_ _ | refine blk_drew ?_ | refine blk_alloc ?_ _)); refine blk_put (cs := #[.int .i64 ((rd_T63 l0 x17_1).f0), .int .i64 ((rd_T63 l0 x17_1).f1), .int .i64 0, .int .i64 0, .int .i64 0, .bool false, .slice none 0 0, .slice none 0 0]) ?_ 2 _ rfl; (with_reducible repeat (first | refine blk_drewN ?_ _ | refine blk_drew ?_ | refine blk_alloc ?_ _)); refine blk_put (cs := #[.int .i64 ((rd_T63 l0 x17_1).f0), .int .i64 0, .int .i64 0, .int .i64 0, .int .i64 0, .bool false, .slice none 0 0, .slice none 0 0]) ?_ 1 _ rfl; (with_reducible repeat (first | refine blk_drewN ?_ _ | refine blk_drew ?_ | refine blk_alloc ?_ _)); refine blk_put (cs := #[.int .i64 0, .int .i64 0, .int .i64 0, .int .i64 0, .int .i64 0, .bool false, .slice none 0 0, .slice none 0 0]) ?_ 0 _ rfl; (with_reducible repeat (first | refine blk_drewN ?_ _ | refine blk_drew ?_ | refine blk_alloc ?_ _)); exact BK318.out)) : gb320 ≠ gb318)); clear BK318; clear HB; have BK318 := n0_; have HB := n1_; have BK320 := n2_; have GW320 := n3_; have GE320 := n4_; have NB318_320 := n5_; have NB320_318 := n6_; clear n0_ n1_ n2_ n3_ n4_ n5_ n6_; clear hb hbox hg; have hnb14 := NB320_318.out; have hnc14 := NB318_320.out; have hczq2_0 := blk_cell BK320.out 0; have hczq2_1 := blk_cell BK320.out 1; have hczq2_2 := blk_cell BK320.out 2; have hczq2_3 := blk_cell BK320.out 3; have hczq2_4 := blk_cell BK320.out 4; have hczq2_5 := blk_cell BK320.out 5; have hczq2_6 := blk_cell BK320.out 6; have hczq2_7 := blk_cell BK320.out 7; have hfzq2_0 := blk_frozen BK320.out 0; have hfzq2_1 := blk_frozen BK320.out 1; have hfzq2_2 := blk_frozen BK320.out 2; have hfzq2_3 := blk_frozen BK320.out 3; have hfzq2_4 := blk_frozen BK320.out 4; have hfzq2_5 := blk_frozen BK320.out 5; have hfzq2_6 := blk_frozen BK320.out 6; have hfzq2_7 := blk_frozen BK320.out 7; have hczq3_0 := blk_cell BK318.out 0; have hczq3_1 := blk_cell BK318.out 1; have hczq3_2 := blk_cell BK318.out 2; have hczq3_3 := blk_cell BK318.out 3; have hczq3_4 := blk_cell BK318.out 4; have hczq3_5 := blk_cell BK318.out 5; have hczq3_6 := blk_cell BK318.out 6; have hczq3_7 := blk_cell BK318.out 7; have hfzq3_0 := blk_frozen BK318.out 0; have hfzq3_1 := blk_frozen BK318.out 1; have hfzq3_2 := blk_frozen BK318.out 2; have hfzq3_3 := blk_frozen BK318.out 3; have hfzq3_4 := blk_frozen BK318.out 4; have hfzq3_5 := blk_frozen BK318.out 5; have hfzq3_6 := blk_frozen BK318.out 6; have hfzq3_7 := blk_frozen BK318.out 7) | (go_at_call 75; (with_reducible refine (code_sameIns.calls k1 ((rd_T63 l0 x17_1).f0) ((rd_T63 l0 x17_1).f1) ((rd_T63 l0 x17_1).f2) ((rd_T63 l0 x17_1).f3) ((rd_T63 l0 x17_1).f4.f0) ((rd_T63 l0 x17_1).f4.f1) _ _ ((rd_T63 l0 x17_1).f4.f2) _ _ ((rd_T63 l0 x17_1).f4.f3) ((rd_T63 l1 x17_1).f0) ((rd_T63 l1 x17_1).f1) ((rd_T63 l1 x17_1).f2) ((rd_T63 l1 x17_1).f3) ((rd_T63 l1 x17_1).f4.f0) ((rd_T63 l1 x17_1).f4.f1) _ _ ((rd_T63 l1 x17_1).f4.f2) _ _ ((rd_T63 l1 x17_1).f4.f3) true _ ?side1 ?side2 ?side3 ?side4 ?side5 ?side6 ?side7 ?side8 A9.out).mono ?_); (case side1 => exact Kd.C_below HR317_6.out (bl HB)); (case side2 => exact HC317_6.out); (case side3 => exact Kd.C_below HR317_7.out (bl HB)); (case side4 => exact HC317_7.out); (case side5 => exact Kd.C_below HR319_6.out (bl HB)); (case side6 => exact HC319_6.out); (case side7 => exact Kd.C_below HR319_7.out (bl HB)); (case side8 => exact HC319_7.out); rintro e wq3 ⟨rfl, hb⟩; replace BK318 := Aside0.mk (blk_below (g := gb318) (o := .cells #[.int .i64 ((rd_T63 l0 x17_1).f0), .int .i64 ((rd_T63 l0 x17_1).f1), .int .i64 ((rd_T63 l0 x17_1).f2), .int .i64 ((rd_T63 l0 x17_1).f3), .int .i64 ((rd_T63 l0 x17_1).f4.f0), .bool ((rd_T63 l0 x17_1).f4.f1), .slice A317_6 ((rd_T63 l0 x17_1).f4.f2).length c317_6, .slice A317_7 ((rd_T63 l0 x17_1).f4.f3).length c317_7] 63 (0, 0)) (by (with_reducible repeat (first | refine blk_drewN ?_ _ | refine blk_drew ?_ | refine blk_alloc ?_ _)); refine blk_far ?_ NB318_320.out _; (with_reducible repeat (first | refine blk_drewN ?_ _ | refine blk_drew ?_ | refine blk_alloc ?_ _)); refine blk_far ?_ NB318_320.out _; (with_reducible repeat (first | refine blk_drewN ?_ _ | refine blk_drew ?_ | refine blk_alloc ?_ _)); refine blk_far ?_ NB318_320.out _; (with_reducible repeat (first | refine blk_drewN ?_ _ | refine blk_drew ?_ | refine blk_alloc ?_ _)); refine blk_far ?_ NB318_320.out _; (with_reducible repeat (first | refine blk_drewN ?_ _ | refine blk_drew ?_ | refine blk_alloc ?_ _)); refine blk_far ?_ NB318_320.out _; (with_reducible repeat (first | refine blk_drewN ?_ _ | refine blk_drew ?_ | refine blk_alloc ?_ _)); refine blk_far ?_ NB318_320.out _; (with_reducible repeat (first | refine blk_drewN ?_ _ | refine blk_drew ?_ | refine blk_alloc ?_ _)); refine blk_far ?_ NB318_320.out _; (with_reducible repeat (first | refine blk_drewN ?_ _ | refine blk_drew ?_ | refine blk_alloc ?_ _)); refine blk_far ?_ NB318_320.out _; (with_reducible repeat (first | refine blk_drewN ?_ _ | refine blk_drew ?_ | refine blk_alloc ?_ _)); exact BK318.out) hb); replace BK320 := Aside0.mk (blk_below (g := gb320) (o := .cells #[.int .i64 ((rd_T63 l1 x17_1).f0), .int .i64 ((rd_T63 l1 x17_1).f1), .int .i64 ((rd_T63 l1 x17_1).f2), .int .i64 ((rd_T63 l1 x17_1).f3), .int .i64 ((rd_T63 l1 x17_1).f4.f0), .bool ((rd_T63 l1 x17_1).f4.f1), .slice A319_6 ((rd_T63 l1 x17_1).f4.f2).length c319_6, .slice A319_7 ((rd_T63 l1 x17_1).f4.f3).length c319_7] 63 (0, 0)) (by (with_reducible repeat (first | refine blk_drewN ?_ _ | refine blk_drew ?_ | refine blk_alloc ?_ _)); refine blk_put (cs := #[.int .i64 ((rd_T63 l1 x17_1).f0), .int .i64 ((rd_T63 l1 x17_1).f1), .int .i64 ((rd_T63 l1 x17_1).f2), .int .i64 ((rd_T63 l1 x17_1).f3), .int .i64 ((rd_T63 l1 x17_1).f4.f0), .bool ((rd_T63 l1 x17_1).f4.f1), .slice A319_6 ((rd_T63 l1 x17_1).f4.f2).length c319_6, .slice none 0 0]) ?_ 7 _ rfl; (with_reducible repeat (first | refine blk_drewN ?_ _ | refine blk_drew ?_ | refine blk_alloc ?_ _)); refine blk_put (cs := #[.int .i64 ((rd_T63 l1 x17_1).f0), .int .i64 ((rd_T63 l1 x17_1).f1), .int .i64 ((rd_T63 l1 x17_1).f2), .int .i64 ((rd_T63 l1 x17_1).f3), .int .i64 ((rd_T63 l1 x17_1).f4.f0), .bool ((rd_T63 l1 x17_1).f4.f1), .slice none 0 0, .slice none 0 0]) ?_ 6 _ rfl; (with_reducible repeat (first | refine blk_drewN ?_ _ | refine blk_drew ?_ | refine blk_alloc ?_ _)); refine blk_put (cs := #[.int .i64 ((rd_T63 l1 x17_1).f0), .int .i64 ((rd_T63 l1 x17_1).f1), .int .i64 ((rd_T63 l1 x17_1).f2), .int .i64 ((rd_T63 l1 x17_1).f3), .int .i64 ((rd_T63 l1 x17_1).f4.f0), .bool false, .slice none 0 0, .slice none 0 0]) ?_ 5 _ rfl; (with_reducible repeat (first | refine blk_drewN ?_ _ | refine blk_drew ?_ | refine blk_alloc ?_ _)); refine blk_put (cs := #[.int .i64 ((rd_T63 l1 x17_1).f0), .int .i64 ((rd_T63 l1 x17_1).f1), .int .i64 ((rd_T63 l1 x17_1).f2), .int .i64 ((rd_T63 l1 x17_1).f3), .int .i64 0, .bool false, .slice none 0 0, .slice none 0 0]) ?_ 4 _ rfl; (with_reducible repeat (first | refine blk_drewN ?_ _ | refine blk_drew ?_ | refine blk_alloc ?_ _)); refine blk_put (cs := #[.int .i64 ((rd_T63 l1 x17_1).f0), .int .i64 ((rd_T63 l1 x17_1).f1), .int .i64 ((rd_T63 l1 x17_1).f2), .int .i64 0, .int .i64 0, .bool false, .slice none 0 0, .slice none 0 0]) ?_ 3 _ rfl; (with_reducible repeat (first | refine blk_drewN ?_ _ | refine blk_drew ?_ | refine blk_alloc ?_ _)); refine blk_put (cs := #[.int .i64 ((rd_T63 l1 x17_1).f0), .int .i64 ((rd_T63 l1 x17_1).f1), .int .i64 0, .int .i64 0, .int .i64 0, .bool false, .slice none 0 0, .slice none 0 0]) ?_ 2 _ rfl; (with_reducible repeat (first | refine blk_drewN ?_ _ | refine blk_drew ?_ | refine blk_alloc ?_ _)); refine blk_put (cs := #[.int .i64 ((rd_T63 l1 x17_1).f0), .int .i64 0, .int .i64 0, .int .i64 0, .int .i64 0, .bool false, .slice none 0 0, .slice none 0 0]) ?_ 1 _ rfl; (with_reducible repeat (first | refine blk_drewN ?_ _ | refine blk_drew ?_ | refine blk_alloc ?_ _)); refine blk_put (cs := #[.int .i64 0, .int .i64 0, .int .i64 0, .int .i64 0, .int .i64 0, .bool false, .slice none 0 0, .slice none 0 0]) ?_ 0 _ rfl; (with_reducible repeat (first | refine blk_drewN ?_ _ | refine blk_drew ?_ | refine blk_alloc ?_ _)); exact BK320.out) hb); replace HB := Aside0.mk (below_step (bl HB) hb); clear hb) | ((with_reducible refine gate_dst (N := 9) rfl ?_); refine bx (N := 9) (cs := #[.int .i64 0, .int .i64 0, .int .i64 0, .int .i64 0, .int .i64 0, .bool false, .slice none 0 0, .slice none 0 0]) (t := 63) ?_; intro gb320 hg wq2 hbox hb; have n0_ := Aside0.mk (blk_below (g := gb318) (o := .cells #[.int .i64 ((rd_T63 l0 x17_1).f0), .int .i64 ((rd_T63 l0 x17_1).f1), .int .i64 ((rd_T63 l0 x17_1).f2), .int .i64 ((rd_T63 l0 x17_1).f3), .int .i64 ((rd_T63 l0 x17_1).f4.f0), .bool ((rd_T63 l0 x17_1).f4.f1), .slice A317_6 ((rd_T63 l0 x17_1).f4.f2).length c317_6, .slice A317_7 ((rd_T63 l0 x17_1).f4.f3).length c317_7] 63 (0, 0)) (by (with_reducible repeat (first | refine blk_drewN ?_ _ | refine blk_drew ?_ | refine blk_alloc ?_ _)); refine blk_put (cs := #[.int .i64 ((rd_T63 l0 x17_1).f0), .int .i64 ((rd_T63 l0 x17_1).f1), .int .i64 ((rd_T63 l0 x17_1).f2), .int .i64 ((rd_T63 l0 x17_1).f3), .int .i64 ((rd_T63 l0 x17_1).f4.f0), .bool ((rd_T63 l0 x17_1).f4.f1), .slice A317_6 ((rd_T63 l0 x17_1).f4.f2).length c317_6, .slice none 0 0]) ?_ 7 _ rfl; (with_reducible repeat (first | refine blk_drewN ?_ _ | refine blk_drew ?_ | refine blk_alloc ?_ _)); refine blk_put (cs := #[.int .i64 ((rd_T63 l0 x17_1).f0), .int .i64 ((rd_T63 l0 x17_1).f1), .int .i64 ((rd_T63 l0 x17_1).f2), .int .i64 ((rd_T63 l0 x17_1).f3), .int .i64 ((rd_T63 l0 x17_1).f4.f0), .bool ((rd_T63 l0 x17_1).f4.f1), .slice none 0 0, .slice none 0 0]) ?_ 6 _ rfl; (with_reducible repeat (first | refine blk_drewN ?_ _ | refine blk_drew ?_ | refine blk_alloc ?_ _)); refine blk_put (cs := #[.int .i64 ((rd_T63 l0 x17_1).f0), .int .i64 ((rd_T63 l0 x17_1).f1), .int .i64 ((rd_T63 l0 x17_1).f2), .int .i64 ((rd_T63 l0 x17_1).f3), .int .i64 ((rd_T63 l0 x17_1).f4.f0), .bool false, .slice none 0 0, .slice none 0 0]) ?_ 5 _ rfl; (with_reducible repeat (first | refine blk_drewN ?_ _ | refine blk_drew ?_ | refine blk_alloc ?_ _)); refine blk_put (cs := #[.int .i64 ((rd_T63 l0 x17_1).f0), .int .i64 ((rd_T63 l0 x17_1).f1), .int .i64 ((rd_T63 l0 x17_1).f2), .int .i64 ((rd_T63 l0 x17_1).f3), .int .i64 0, .bool false, .slice none 0 0, .slice none 0 0]) ?_ 4 _ rfl; (with_reducible repeat (first | refine blk_drewN ?_ _ | refine blk_drew ?_ | refine blk_alloc ?_ _)); refine blk_put (cs := #[.int .i64 ((rd_T63 l0 x17_1).f0), .int .i64 ((rd_T63 l0 x17_1).f1), .int .i64 ((rd_T63 l0 x17_1).f2), .int .i64 0, .int .i64 0, .bool false, .slice none 0 0, .slice none 0 0]) ?_ 3 _ rfl; (with_reducible repeat (first | refine blk_drewN ?_ _ | refine blk_drew ?_ | refine blk_alloc ?_ _)); refine blk_put (cs := #[.int .i64 ((rd_T63 l0 x17_1).f0), .int .i64 ((rd_T63 l0 x17_1).f1), .int .i64 0, .int .i64 0, .int .i64 0, .bool false, .slice none 0 0, .slice none 0 0]) ?_ 2 _ rfl; (with_reducible repeat (first | refine blk_drewN ?_ _ | refine blk_drew ?_ | refine blk_alloc ?_ _)); refine blk_put (cs := #[.int .i64 ((rd_T63 l0 x17_1).f0), .int .i64 0, .int .i64 0, .int .i64 0, .int .i64 0, .bool false, .slice none 0 0, .slice none 0 0]) ?_ 1 _ rfl; (with_reducible repeat (first | refine blk_drewN ?_ _ | refine blk_drew ?_ | refine blk_alloc ?_ _)); refine blk_put (cs := #[.int .i64 0, .int .i64 0, .int .i64 0, .int .i64 0, .int .i64 0, .bool false, .slice none 0 0, .slice none 0 0]) ?_ 0 _ rfl; (with_reducible repeat (first | refine blk_drewN ?_ _ | refine blk_drew ?_ | refine blk_alloc ?_ _)); exact BK318.out) hb); have n1_ := Aside0.mk (below_step (bl HB) hb); have n2_ := Aside0.mk (hbox); have n3_ := (gz hg HB : Aside0 (w.heap.size ≤ gb320)); have n4_ := (gz hg HB : Aside0 (w.heap.size ≤ gb320)); have n5_ := Aside0.mk ((by rw [hg]; exact Nat.ne_of_lt (blk_lt (g := gb318) (o := .cells #[.int .i64 ((rd_T63 l0 x17_1).f0), .int .i64 ((rd_T63 l0 x17_1).f1), .int .i64 ((rd_T63 l0 x17_1).f2), .int .i64 ((rd_T63 l0 x17_1).f3), .int .i64 ((rd_T63 l0 x17_1).f4.f0), .bool ((rd_T63 l0 x17_1).f4.f1), .slice A317_6 ((rd_T63 l0 x17_1).f4.f2).length c317_6, .slice A317_7 ((rd_T63 l0 x17_1).f4.f3).length c317_7] 63 (0, 0)) (by (with_reducible repeat (first | refine blk_drewN ?_ _ | refine blk_drew ?_ | refine blk_alloc ?_ _)); refine blk_put (cs := #[.int .i64 ((rd_T63 l0 x17_1).f0), .int .i64 ((rd_T63 l0 x17_1).f1), .int .i64 ((rd_T63 l0 x17_1).f2), .int .i64 ((rd_T63 l0 x17_1).f3), .int .i64 ((rd_T63 l0 x17_1).f4.f0), .bool ((rd_T63 l0 x17_1).f4.f1), .slice A317_6 ((rd_T63 l0 x17_1).f4.f2).length c317_6, .slice none 0 0]) ?_ 7 _ rfl; (with_reducible repeat (first | refine blk_drewN ?_ _ | refine blk_drew ?_ | refine blk_alloc ?_ _)); refine blk_put (cs := #[.int .i64 ((rd_T63 l0 x17_1).f0), .int .i64 ((rd_T63 l0 x17_1).f1), .int .i64 ((rd_T63 l0 x17_1).f2), .int .i64 ((rd_T63 l0 x17_1).f3), .int .i64 ((rd_T63 l0 x17_1).f4.f0), .bool ((rd_T63 l0 x17_1).f4.f1), .slice none 0 0, .slice none 0 0]) ?_ 6 _ rfl; (with_reducible repeat (first | refine blk_drewN ?_ _ | refine blk_drew ?_ | refine blk_alloc ?_ _)); refine blk_put (cs := #[.int .i64 ((rd_T63 l0 x17_1).f0), .int .i64 ((rd_T63 l0 x17_1).f1), .int .i64 ((rd_T63 l0 x17_1).f2), .int .i64 ((rd_T63 l0 x17_1).f3), .int .i64 ((rd_T63 l0 x17_1).f4.f0), .bool false, .slice none 0 0, .slice none 0 0]) ?_ 5 _ rfl; (with_reducible repeat (first | refine blk_drewN ?_ _ | refine blk_drew ?_ | refine blk_alloc ?_ _)); refine blk_put (cs := #[.int .i64 ((rd_T63 l0 x17_1).f0), .int .i64 ((rd_T63 l0 x17_1).f1), .int .i64 ((rd_T63 l0 x17_1).f2), .int .i64 ((rd_T63 l0 x17_1).f3), .int .i64 0, .bool false, .slice none 0 0, .slice none 0 0]) ?_ 4 _ rfl; (with_reducible repeat (first | refine blk_drewN ?_ _ | refine blk_drew ?_ | refine blk_alloc ?_ _)); refine blk_put (cs := #[.int .i64 ((rd_T63 l0 x17_1).f0), .int .i64 ((rd_T63 l0 x17_1).f1), .int .i64 ((rd_T63 l0 x17_1).f2), .int .i64 0, .int .i64 0, .bool false, .slice none 0 0, .slice none 0 0]) ?_ 3 _ rfl; (with_reducible repeat (first | refine blk_drewN ?_ _ | refine blk_drew ?_ | refine blk_alloc ?_ _)); refine blk_put (cs := #[.int .i64 ((rd_T63 l0 x17_1).f0), .int .i64 ((rd_T63 l0 x17_1).f1), .int .i64 0, .int .i64 0, .int .i64 0, .bool false, .slice none 0 0, .slice none 0 0]) ?_ 2 _ rfl; (with_reducible repeat (first | refine blk_drewN ?_ _ | refine blk_drew ?_ | refine blk_alloc ?_ _)); refine blk_put (cs := #[.int .i64 ((rd_T63 l0 x17_1).f0), .int .i64 0, .int .i64 0, .int .i64 0, .int .i64 0, .bool false, .slice none 0 0, .slice none 0 0]) ?_ 1 _ rfl; (with_reducible repeat (first | refine blk_drewN ?_ _ | refine blk_drew ?_ | refine blk_alloc ?_ _)); refine blk_put (cs := #[.int .i64 0, .int .i64 0, .int .i64 0, .int .i64 0, .int .i64 0, .bool false, .slice none 0 0, .slice none 0 0]) ?_ 0 _ rfl; (with_reducible repeat (first | refine blk_drewN ?_ _ | refine blk_drew ?_ | refine blk_alloc ?_ _)); exact BK318.out)) : gb318 ≠ gb320)); have n6_ := Aside0.mk ((by rw [hg]; exact Nat.ne_of_gt (blk_lt (g := gb318) (o := .cells #[.int .i64 ((rd_T63 l0 x17_1).f0), .int .i64 ((rd_T63 l0 x17_1).f1), .int .i64 ((rd_T63 l0 x17_1).f2), .int .i64 ((rd_T63 l0 x17_1).f3), .int .i64 ((rd_T63 l0 x17_1).f4.f0), .bool ((rd_T63 l0 x17_1).f4.f1), .slice A317_6 ((rd_T63 l0 x17_1).f4.f2).length c317_6, .slice A317_7 ((rd_T63 l0 x17_1).f4.f3).length c317_7] 63 (0, 0)) (by (with_reducible repeat (first | refine blk_drewN ?_ _ | refine blk_drew ?_ | refine blk_alloc ?_ _)); refine blk_put (cs := #[.int .i64 ((rd_T63 l0 x17_1).f0), .int .i64 ((rd_T63 l0 x17_1).f1), .int .i64 ((rd_T63 l0 x17_1).f2), .int .i64 ((rd_T63 l0 x17_1).f3), .int .i64 ((rd_T63 l0 x17_1).f4.f0), .bool ((rd_T63 l0 x17_1).f4.f1), .slice A317_6 ((rd_T63 l0 x17_1).f4.f2).length c317_6, .slice none 0 0]) ?_ 7 _ rfl; (with_reducible repeat (first | refine blk_drewN ?_ _ | refine blk_drew ?_ | refine blk_alloc ?_ _)); refine blk_put (cs := #[.int .i64 ((rd_T63 l0 x17_1).f0), .int .i64 ((rd_T63 l0 x17_1).f1), .int .i64 ((rd_T63 l0 x17_1).f2), .int .i64 ((rd_T63 l0 x17_1).f3), .int .i64 ((rd_T63 l0 x17_1).f4.f0), .bool ((rd_T63 l0 x17_1).f4.f1), .slice none 0 0, .slice none 0 0]) ?_ 6 _ rfl; (with_reducible repeat (first | refine blk_drewN ?_ _ | refine blk_drew ?_ | refine blk_alloc ?_ _)); refine blk_put (cs := #[.int .i64 ((rd_T63 l0 x17_1).f0), .int .i64 ((rd_T63 l0 x17_1).f1), .int .i64 ((rd_T63 l0 x17_1).f2), .int .i64 ((rd_T63 l0 x17_1).f3), .int .i64 ((rd_T63 l0 x17_1).f4.f0), .bool false, .slice none 0 0, .slice none 0 0]) ?_ 5 _ rfl; (with_reducible repeat (first | refine blk_drewN ?_ _ | refine blk_drew ?_ | refine blk_alloc ?_ _)); refine blk_put (cs := #[.int .i64 ((rd_T63 l0 x17_1).f0), .int .i64 ((rd_T63 l0 x17_1).f1), .int .i64 ((rd_T63 l0 x17_1).f2), .int .i64 ((rd_T63 l0 x17_1).f3), .int .i64 0, .bool false, .slice none 0 0, .slice none 0 0]) ?_ 4 _ rfl; (with_reducible repeat (first | refine blk_drewN ?_ _ | refine blk_drew ?_ | refine blk_alloc ?_ _)); refine blk_put (cs := #[.int .i64 ((rd_T63 l0 x17_1).f0), .int .i64 ((rd_T63 l0 x17_1).f1), .int .i64 ((rd_T63 l0 x17_1).f2), .int .i64 0, .int .i64 0, .bool false, .slice none 0 0, .slice none 0 0]) ?_ 3 _ rfl; (with_reducible repeat (first | refine blk_drewN ?_ _ | refine blk_drew ?_ | refine blk_alloc ?_ _)); refine blk_put (cs := #[.int .i64 ((rd_T63 l0 x17_1).f0), .int .i64 ((rd_T63 l0 x17_1).f1), .int .i64 0, .int .i64 0, .int .i64 0, .bool false, .slice none 0 0, .slice none 0 0]) ?_ 2 _ rfl; (with_reducible repeat (first | refine blk_drewN ?_ _ | refine blk_drew ?_ | refine blk_alloc ?_ _)); refine blk_put (cs := #[.int .i64 ((rd_T63 l0 x17_1).f0), .int .i64 0, .int .i64 0, .int .i64 0, .int .i64 0, .bool false, .slice none 0 0, .slice none 0 0]) ?_ 1 _ rfl; (with_reducible repeat (first | refine blk_drewN ?_ _ | refine blk_drew ?_ | refine blk_alloc ?_ _)); refine blk_put (cs := #[.int .i64 0, .int .i64 0, .int .i64 0, .int .i64 0, .int .i64 0, .bool false, .slice none 0 0, .slice none 0 0]) ?_ 0 _ rfl; (with_reducible repeat (first | refine blk_drewN ?_ _ | refine blk_drew ?_ | refine blk_alloc ?_ _)); exact BK318.out)) : gb320 ≠ gb318)); clear BK318; clear HB; have BK318 := n0_; have HB := n1_; have BK320 := n2_; have GW320 := n3_; have GE320 := n4_; have NB318_320 := n5_; have NB320_318 := n6_; clear n0_ n1_ n2_ n3_ n4_ n5_ n6_; clear hb hbox hg; have hnb21 := NB320_318.out; have hnc21 := NB318_320.out; have hczq2_0 := blk_cell BK320.out 0; have hczq2_1 := blk_cell BK320.out 1; have hczq2_2 := blk_cell BK320.out 2; have hczq2_3 := blk_cell BK320.out 3; have hczq2_4 := blk_cell BK320.out 4; have hczq2_5 := blk_cell BK320.out 5; have hczq2_6 := blk_cell BK320.out 6; have hczq2_7 := blk_cell BK320.out 7; have hfzq2_0 := blk_frozen BK320.out 0; have hfzq2_1 := blk_frozen BK320.out 1; have hfzq2_2 := blk_frozen BK320.out 2; have hfzq2_3 := blk_frozen BK320.out 3; have hfzq2_4 := blk_frozen BK320.out 4; have hfzq2_5 := blk_frozen BK320.out 5; have hfzq2_6 := blk_frozen BK320.out 6; have hfzq2_7 := blk_frozen BK320.out 7; have hczq3_0 := blk_cell BK318.out 0; have hczq3_1 := blk_cell BK318.out 1; have hczq3_2 := blk_cell BK318.out 2; have hczq3_3 := blk_cell BK318.out 3; have hczq3_4 := blk_cell BK318.out 4; have hczq3_5 := blk_cell BK318.out 5; have hczq3_6 := blk_cell BK318.out 6; have hczq3_7 := blk_cell BK318.out 7; have hfzq3_0 := blk_frozen BK318.out 0; have hfzq3_1 := blk_frozen BK318.out 1; have hfzq3_2 := blk_frozen BK318.out 2; have hfzq3_3 := blk_frozen BK318.out 3; have hfzq3_4 := blk_frozen BK318.out 4; have hfzq3_5 := blk_frozen BK318.out 5; have hfzq3_6 := blk_frozen BK318.out 6; have hfzq3_7 := blk_frozen BK318.out 7) | (go_at_call 75; (with_reducible refine (code_sameIns.calls k1 ((rd_T63 l0 x17_1).f0) ((rd_T63 l0 x17_1).f1) ((rd_T63 l0 x17_1).f2) ((rd_T63 l0 x17_1).f3) ((rd_T63 l0 x17_1).f4.f0) ((rd_T63 l0 x17_1).f4.f1) _ _ ((rd_T63 l0 x17_1).f4.f2) _ _ ((rd_T63 l0 x17_1).f4.f3) ((rd_T63 l1 x17_1).f0) ((rd_T63 l1 x17_1).f1) ((rd_T63 l1 x17_1).f2) ((rd_T63 l1 x17_1).f3) ((rd_T63 l1 x17_1).f4.f0) ((rd_T63 l1 x17_1).f4.f1) _ _ ((rd_T63 l1 x17_1).f4.f2) _ _ ((rd_T63 l1 x17_1).f4.f3) false _ ?side1 ?side2 ?side3 ?side4 ?side5 ?side6 ?side7 ?side8 A9.out).mono ?_); (case side1 => exact Kd.C_below HR317_6.out (bl HB)); (case side2 => exact HC317_6.out); (case side3 => exact Kd.C_below HR317_7.out (bl HB)); (case side4 => exact HC317_7.out); (case side5 => exact Kd.C_below HR319_6.out (bl HB)); (case side6 => exact HC319_6.out); (case side7 => exact Kd.C_below HR319_7.out (bl HB)); (case side8 => exact HC319_7.out); rintro e wq3 ⟨rfl, hb⟩; replace BK318 := Aside0.mk (blk_below (g := gb318) (o := .cells #[.int .i64 ((rd_T63 l0 x17_1).f0), .int .i64 ((rd_T63 l0 x17_1).f1), .int .i64 ((rd_T63 l0 x17_1).f2), .int .i64 ((rd_T63 l0 x17_1).f3), .int .i64 ((rd_T63 l0 x17_1).f4.f0), .bool ((rd_T63 l0 x17_1).f4.f1), .slice A317_6 ((rd_T63 l0 x17_1).f4.f2).length c317_6, .slice A317_7 ((rd_T63 l0 x17_1).f4.f3).length c317_7] 63 (0, 0)) (by (with_reducible repeat (first | refine blk_drewN ?_ _ | refine blk_drew ?_ | refine blk_alloc ?_ _)); refine blk_far ?_ NB318_320.out _; (with_reducible repeat (first | refine blk_drewN ?_ _ | refine blk_drew ?_ | refine blk_alloc ?_ _)); refine blk_far ?_ NB318_320.out _; (with_reducible repeat (first | refine blk_drewN ?_ _ | refine blk_drew ?_ | refine blk_alloc ?_ _)); refine blk_far ?_ NB318_320.out _; (with_reducible repeat (first | refine blk_drewN ?_ _ | refine blk_drew ?_ | refine blk_alloc ?_ _)); refine blk_far ?_ NB318_320.out _; (with_reducible repeat (first | refine blk_drewN ?_ _ | refine blk_drew ?_ | refine blk_alloc ?_ _)); refine blk_far ?_ NB318_320.out _; (with_reducible repeat (first | refine blk_drewN ?_ _ | refine blk_drew ?_ | refine blk_alloc ?_ _)); refine blk_far ?_ NB318_320.out _; (with_reducible repeat (first | refine blk_drewN ?_ _ | refine blk_drew ?_ | refine blk_alloc ?_ _)); refine blk_far ?_ NB318_320.out _; (with_reducible repeat (first | refine blk_drewN ?_ _ | refine blk_drew ?_ | refine blk_alloc ?_ _)); refine blk_far ?_ NB318_320.out _; (with_reducible repeat (first | refine blk_drewN ?_ _ | refine blk_drew ?_ | refine blk_alloc ?_ _)); exact BK318.out) hb); replace BK320 := Aside0.mk (blk_below (g := gb320) (o := .cells #[.int .i64 ((rd_T63 l1 x17_1).f0), .int .i64 ((rd_T63 l1 x17_1).f1), .int .i64 ((rd_T63 l1 x17_1).f2), .int .i64 ((rd_T63 l1 x17_1).f3), .int .i64 ((rd_T63 l1 x17_1).f4.f0), .bool ((rd_T63 l1 x17_1).f4.f1), .slice A319_6 ((rd_T63 l1 x17_1).f4.f2).length c319_6, .slice A319_7 ((rd_T63 l1 x17_1).f4.f3).length c319_7] 63 (0, 0)) (by (with_reducible repeat (first | refine blk_drewN ?_ _ | refine blk_drew ?_ | refine blk_alloc ?_ _)); refine blk_put (cs := #[.int .i64 ((rd_T63 l1 x17_1).f0), .int .i64 ((rd_T63 l1 x17_1).f1), .int .i64 ((rd_T63 l1 x17_1).f2), .int .i64 ((rd_T63 l1 x17_1).f3), .int .i64 ((rd_T63 l1 x17_1).f4.f0), .bool ((rd_T63 l1 x17_1).f4.f1), .slice A319_6 ((rd_T63 l1 x17_1).f4.f2).length c319_6, .slice none 0 0]) ?_ 7 _ rfl; (with_reducible repeat (first | refine blk_drewN ?_ _ | refine blk_drew ?_ | refine blk_alloc ?_ _)); refine blk_put (cs := #[.int .i64 ((rd_T63 l1 x17_1).f0), .int .i64 ((rd_T63 l1 x17_1).f1), .int .i64 ((rd_T63 l1 x17_1).f2), .int .i64 ((rd_T63 l1 x17_1).f3), .int .i64 ((rd_T63 l1 x17_1).f4.f0), .bool ((rd_T63 l1 x17_1).f4.f1), .slice none 0 0, .slice none 0 0]) ?_ 6 _ rfl; (with_reducible repeat (first | refine blk_drewN ?_ _ | refine blk_drew ?_ | refine blk_alloc ?_ _)); refine blk_put (cs := #[.int .i64 ((rd_T63 l1 x17_1).f0), .int .i64 ((rd_T63 l1 x17_1).f1), .int .i64 ((rd_T63 l1 x17_1).f2), .int .i64 ((rd_T63 l1 x17_1).f3), .int .i64 ((rd_T63 l1 x17_1).f4.f0), .bool false, .slice none 0 0, .slice none 0 0]) ?_ 5 _ rfl; (with_reducible repeat (first | refine blk_drewN ?_ _ | refine blk_drew ?_ | refine blk_alloc ?_ _)); refine blk_put (cs := #[.int .i64 ((rd_T63 l1 x17_1).f0), .int .i64 ((rd_T63 l1 x17_1).f1), .int .i64 ((rd_T63 l1 x17_1).f2), .int .i64 ((rd_T63 l1 x17_1).f3), .int .i64 0, .bool false, .slice none 0 0, .slice none 0 0]) ?_ 4 _ rfl; (with_reducible repeat (first | refine blk_drewN ?_ _ | refine blk_drew ?_ | refine blk_alloc ?_ _)); refine blk_put (cs := #[.int .i64 ((rd_T63 l1 x17_1).f0), .int .i64 ((rd_T63 l1 x17_1).f1), .int .i64 ((rd_T63 l1 x17_1).f2), .int .i64 0, .int .i64 0, .bool false, .slice none 0 0, .slice none 0 0]) ?_ 3 _ rfl; (with_reducible repeat (first | refine blk_drewN ?_ _ | refine blk_drew ?_ | refine blk_alloc ?_ _)); refine blk_put (cs := #[.int .i64 ((rd_T63 l1 x17_1).f0), .int .i64 ((rd_T63 l1 x17_1).f1), .int .i64 0, .int .i64 0, .int .i64 0, .bool false, .slice none 0 0, .slice none 0 0]) ?_ 2 _ rfl; (with_reducible repeat (first | refine blk_drewN ?_ _ | refine blk_drew ?_ | refine blk_alloc ?_ _)); refine blk_put (cs := #[.int .i64 ((rd_T63 l1 x17_1).f0), .int .i64 0, .int .i64 0, .int .i64 0, .int .i64 0, .bool false, .slice none 0 0, .slice none 0 0]) ?_ 1 _ rfl; (with_reducible repeat (first | refine blk_drewN ?_ _ | refine blk_drew ?_ | refine blk_alloc ?_ _)); refine blk_put (cs := #[.int .i64 0, .int .i64 0, .int .i64 0, .int .i64 0, .int .i64 0, .bool false, .slice none 0 0, .slice none 0 0]) ?_ 0 _ rfl; (with_reducible repeat (first | refine blk_drewN ?_ _ | refine blk_drew ?_ | refine blk_alloc ?_ _)); exact BK320.out) hb); replace HB := Aside0.mk (below_step (bl HB) hb); clear hb)))
    ·go_roundg k1
     case measure => have := HK1.out; omega
     case rel => exact ⟨(wrap64 (x17_1 + 1)), rs, H', ⟨by have := HK1.out; omega⟩, ⟨bl HB⟩⟩
    ·go_ret
     exact ⟨re, bl HB⟩
 ·rw [if_neg c4] at H
  have c4b0 : ((l0.length : Int) == (l1.length : Int)) = false := beq_eq_false_iff_ne.mpr c4
  have c4b1 : ((l0.length : Int) != (l1.length : Int)) = true := bne_iff_ne.mpr c4
  have c4b2 : (l0.length == l1.length) = false := by first | simpa using c4 | (simp at c4 ⊢; omega)
  obtain rfl := Option.some.inj H
  go_enter Tryz.func74, Tryz.ntmps74
  go_wp2
  go_ret
  exact ⟨re, bl HB⟩
def code_Same_1.f (k : Nat) (a0_0 : ByteArray) (l0_1 : List (S115)) (l0_2 : List (S115)) (a0_3 : Int) (l0_4 : List (S63)) (a1_0 : ByteArray) (l1_1 : List (S115)) (l1_2 : List (S115)) (a1_3 : Int) (l1_4 : List (S63)) : Option (Bool) := if a0_0.toList = a1_0.toList then (if a0_3 = a1_3 then ((slices_EqualFunc_api_Type_api_Type_api_Type_api_Type_at_code_sameType.f k l0_1 l1_1).bind fun t324 => (if t324 = true then ((slices_EqualFunc_api_Type_api_Type_api_Type_api_Type_at_code_sameType.f k l0_2 l1_2).bind fun t325 => (if t325 = true then ((slices_EqualFunc_api_Ins_api_Ins_api_Ins_api_Ins_at_code_sameIns.f k l0_4 l1_4).bind fun t326 => (some t326)) else (some false))) else (some false))) else (some false)) else (some false)
set_option maxHeartbeats 8000000 in
set_option maxRecDepth 100000 in
theorem code_Same_1.calls (k : Nat) (a0_0 : ByteArray) (A0_1 : Option Addr) (c0_1 : Nat) (l0_1 : List (S115)) (A0_2 : Option Addr) (c0_2 : Nat) (l0_2 : List (S115)) (a0_3 : Int) (A0_4 : Option Addr) (c0_4 : Nat) (l0_4 : List (S63)) (a1_0 : ByteArray) (A1_1 : Option Addr) (c1_1 : Nat) (l1_1 : List (S115)) (A1_2 : Option Addr) (c1_2 : Nat) (l1_2 : List (S115)) (a1_3 : Int) (A1_4 : Option Addr) (c1_4 : Nat) (l1_4 : List (S63)) (r : Bool) (w : World) (hr0_1 : Kd.C k115 w A0_1 l0_1.length l0_1) (hc0_1 : l0_1.length ≤ c0_1) (hr0_2 : Kd.C k115 w A0_2 l0_2.length l0_2) (hc0_2 : l0_2.length ≤ c0_2) (hr0_4 : Kd.C k63 w A0_4 l0_4.length l0_4) (hc0_4 : l0_4.length ≤ c0_4) (hr1_1 : Kd.C k115 w A1_1 l1_1.length l1_1) (hc1_1 : l1_1.length ≤ c1_1) (hr1_2 : Kd.C k115 w A1_2 l1_2.length l1_2) (hc1_2 : l1_2.length ≤ c1_2) (hr1_4 : Kd.C k63 w A1_4 l1_4.length l1_4) (hc1_4 : l1_4.length ≤ c1_4) (h : code_Same_1.f k a0_0 l0_1 l0_2 a0_3 l0_4 a1_0 l1_1 l1_2 a1_3 l1_4 = some r) :
  Calls Tryz.prog 71 #[.agg #[.string a0_0, .slice A0_1 l0_1.length c0_1, .slice A0_2 l0_2.length c0_2, .int .i64 a0_3, .slice A0_4 l0_4.length c0_4], .agg #[.string a1_0, .slice A1_1 l1_1.length c1_1, .slice A1_2 l1_2.length c1_2, .int .i64 a1_3, .slice A1_4 l1_4.length c1_4]] w fun e w' => e = .returned (.bool r) ∧ Below w.heap.size w w' := by
 have hu50 := Tryz.underlying50
 have HR0_1 := Aside0.mk hr0_1
 have HC0_1 := Aside0.mk hc0_1
 clear hr0_1 hc0_1
 have HR0_2 := Aside0.mk hr0_2
 have HC0_2 := Aside0.mk hc0_2
 clear hr0_2 hc0_2
 have HR0_4 := Aside0.mk hr0_4
 have HC0_4 := Aside0.mk hc0_4
 clear hr0_4 hc0_4
 have HR1_1 := Aside0.mk hr1_1
 have HC1_1 := Aside0.mk hc1_1
 clear hr1_1 hc1_1
 have HR1_2 := Aside0.mk hr1_2
 have HC1_2 := Aside0.mk hc1_2
 clear hr1_2 hc1_2
 have HR1_4 := Aside0.mk hr1_4
 have HC1_4 := Aside0.mk hc1_4
 clear hr1_4 hc1_4
 have HB := Aside0.mk (Below.refl w.heap.size w)
 have H : (if a0_0.toList = a1_0.toList then (if a0_3 = a1_3 then ((slices_EqualFunc_api_Type_api_Type_api_Type_api_Type_at_code_sameType.f k l0_1 l1_1).bind fun t324 => (if t324 = true then ((slices_EqualFunc_api_Type_api_Type_api_Type_api_Type_at_code_sameType.f k l0_2 l1_2).bind fun t325 => (if t325 = true then ((slices_EqualFunc_api_Ins_api_Ins_api_Ins_api_Ins_at_code_sameIns.f k l0_4 l1_4).bind fun t326 => (some t326)) else (some false))) else (some false))) else (some false)) else (some false)) = some r := h
 clear h
 by_cases c3 : a0_0.toList = a1_0.toList
 focus
  rw [if_pos c3] at H
  have c3b0 : (a0_0.toList == a1_0.toList) = true := beq_iff_eq.mpr c3
  have c3b1 : (a0_0.toList != a1_0.toList) = false := bne_eq_false_iff_eq.mpr c3
  clear c3
  by_cases c4 : a0_3 = a1_3
  focus
   rw [if_pos c4] at H
   have c4b0 : (a0_3 == a1_3) = true := beq_iff_eq.mpr c4
   have c4b1 : (a0_3 != a1_3) = false := bne_eq_false_iff_eq.mpr c4
   clear c4
   replace H := Option.bind_eq_some_iff.mp H
   obtain ⟨t324, A50, H⟩ := H
   (try dsimp only at H)
   have A5 := Aside0.mk A50
   clear A50
   by_cases c6 : t324 = true
   focus
    subst c6
    have H1 : ((slices_EqualFunc_api_Type_api_Type_api_Type_api_Type_at_code_sameType.f k l0_2 l1_2).bind fun t325 => (if t325 = true then ((slices_EqualFunc_api_Ins_api_Ins_api_Ins_api_Ins_at_code_sameIns.f k l0_4 l1_4).bind fun t326 => (some t326)) else (some false))) = some r := by rw [if_pos rfl] at H; exact H
    clear H
    have H := H1
    clear H1
    replace H := Option.bind_eq_some_iff.mp H
    obtain ⟨t325, A70, H⟩ := H
    (try dsimp only at H)
    have A7 := Aside0.mk A70
    clear A70
    by_cases c8 : t325 = true
    focus
     subst c8
     have H1 : ((slices_EqualFunc_api_Ins_api_Ins_api_Ins_api_Ins_at_code_sameIns.f k l0_4 l1_4).bind fun t326 => (some t326)) = some r := by rw [if_pos rfl] at H; exact H
     clear H
     have H := H1
     clear H1
     replace H := Option.bind_eq_some_iff.mp H
     obtain ⟨t326, A90, H⟩ := H
     (try dsimp only at H)
     have A9 := Aside0.mk A90
     clear A90
     obtain rfl := Option.some.inj H
    rotate_left 1
    focus
     replace c8 := Bool.eq_false_iff.mpr c8
     subst c8
     have H1 : (some false) = some r := by rw [if_neg (show ¬ (false = true) by decide)] at H; exact H
     clear H
     have H := H1
     clear H1
     obtain rfl := Option.some.inj H
    rotate_left 1
   rotate_left 2
   focus
    replace c6 := Bool.eq_false_iff.mpr c6
    subst c6
    have H1 : (some false) = some r := by rw [if_neg (show ¬ (false = true) by decide)] at H; exact H
    clear H
    have H := H1
    clear H1
    obtain rfl := Option.some.inj H
   rotate_left 1
  rotate_left 3
  focus
   rw [if_neg c4] at H
   have c4b0 : (a0_3 == a1_3) = false := beq_eq_false_iff_ne.mpr c4
   have c4b1 : (a0_3 != a1_3) = true := bne_iff_ne.mpr c4
   obtain rfl := Option.some.inj H
  rotate_left 1
 rotate_left 4
 focus
  rw [if_neg c3] at H
  have c3b0 : (a0_0.toList == a1_0.toList) = false := beq_eq_false_iff_ne.mpr c3
  have c3b1 : (a0_0.toList != a1_0.toList) = true := bne_iff_ne.mpr c3
  obtain rfl := Option.some.inj H
 rotate_left 1
 all_goals (go_enter Tryz.func71, Tryz.ntmps71)
 all_goals (go_wp2_with (first | ((with_reducible refine gate_dst (N := 2) rfl ?_); refine bx (N := 2) (cs := #[.string a0_0, .slice A0_1 l0_1.length c0_1, .slice A0_2 l0_2.length c0_2, .int .i64 a0_3, .slice A0_4 l0_4.length c0_4]) (t := 50) ?_; intro gb322 hg wq1 hbox hb; have BK322 := Aside0.mk (hbox); have GW322 := (gz hg HB : Aside0 (w.heap.size ≤ gb322)); have GE322 := (gz hg HB : Aside0 (w.heap.size ≤ gb322)); replace HB := Aside0.mk (below_step (bl HB) hb); clear hb hbox hg) | ((with_reducible refine gate_dst (N := 3) rfl ?_); refine bx (N := 3) (cs := #[.string a1_0, .slice A1_1 l1_1.length c1_1, .slice A1_2 l1_2.length c1_2, .int .i64 a1_3, .slice A1_4 l1_4.length c1_4]) (t := 50) ?_; intro gb323 hg wq2 hbox hb; have n0_ := Aside0.mk (blk_below (g := gb322) (o := .cells #[.string a0_0, .slice A0_1 l0_1.length c0_1, .slice A0_2 l0_2.length c0_2, .int .i64 a0_3, .slice A0_4 l0_4.length c0_4] 50 (0, 0)) (bk BK322) hb); have n1_ := Aside0.mk (below_step (bl HB) hb); have n2_ := Aside0.mk (hbox); have n3_ := (gz hg HB : Aside0 (w.heap.size ≤ gb323)); have n4_ := (gz hg HB : Aside0 (w.heap.size ≤ gb323)); have n5_ := Aside0.mk ((by rw [hg]; exact Nat.ne_of_lt (blk_lt (g := gb322) (o := .cells #[.string a0_0, .slice A0_1 l0_1.length c0_1, .slice A0_2 l0_2.length c0_2, .int .i64 a0_3, .slice A0_4 l0_4.length c0_4] 50 (0, 0)) (bk BK322)) : gb322 ≠ gb323)); have n6_ := Aside0.mk ((by rw [hg]; exact Nat.ne_of_gt (blk_lt (g := gb322) (o := .cells #[.string a0_0, .slice A0_1 l0_1.length c0_1, .slice A0_2 l0_2.length c0_2, .int .i64 a0_3, .slice A0_4 l0_4.length c0_4] 50 (0, 0)) (bk BK322)) : gb323 ≠ gb322)); clear BK322; clear HB; have BK322 := n0_; have HB := n1_; have BK323 := n2_; have GW323 := n3_; have GE323 := n4_; have NB322_323 := n5_; have NB323_322 := n6_; clear n0_ n1_ n2_ n3_ n4_ n5_ n6_; clear hb hbox hg; have hnb12 := NB322_323.out; have hnc12 := NB323_322.out; have hczq1_0 := blk_cell BK322.out 0; have hczq1_1 := blk_cell BK322.out 1; have hczq1_2 := blk_cell BK322.out 2; have hczq1_3 := blk_cell BK322.out 3; have hczq1_4 := blk_cell BK322.out 4; have hfzq1_0 := blk_frozen BK322.out 0; have hfzq1_1 := blk_frozen BK322.out 1; have hfzq1_2 := blk_frozen BK322.out 2; have hfzq1_3 := blk_frozen BK322.out 3; have hfzq1_4 := blk_frozen BK322.out 4; have hczq2_0 := blk_cell BK323.out 0; have hczq2_1 := blk_cell BK323.out 1; have hczq2_2 := blk_cell BK323.out 2; have hczq2_3 := blk_cell BK323.out 3; have hczq2_4 := blk_cell BK323.out 4; have hfzq2_0 := blk_frozen BK323.out 0; have hfzq2_1 := blk_frozen BK323.out 1; have hfzq2_2 := blk_frozen BK323.out 2; have hfzq2_3 := blk_frozen BK323.out 3; have hfzq2_4 := blk_frozen BK323.out 4) | (go_at_call 72; (with_reducible refine (slices_EqualFunc_api_Type_api_Type_api_Type_api_Type_at_code_sameType.calls k _ _ l0_1 _ _ l1_1  true _ ?side1 ?side2 ?side3 ?side4 A5.out).mono ?_); (case side1 => exact cb HR0_1 HB); (case side2 => exact HC0_1.out); (case side3 => exact cb HR1_1 HB); (case side4 => exact HC1_1.out); rintro e wq3 ⟨rfl, hb⟩; replace BK322 := Aside0.mk (blk_below (g := gb322) (o := .cells #[.string a0_0, .slice A0_1 l0_1.length c0_1, .slice A0_2 l0_2.length c0_2, .int .i64 a0_3, .slice A0_4 l0_4.length c0_4] 50 (0, 0)) (bk BK322) hb); replace BK323 := Aside0.mk (blk_below (g := gb323) (o := .cells #[.string a1_0, .slice A1_1 l1_1.length c1_1, .slice A1_2 l1_2.length c1_2, .int .i64 a1_3, .slice A1_4 l1_4.length c1_4] 50 (0, 0)) (bk BK323) hb); replace HB := Aside0.mk (below_step (bl HB) hb); clear hb; have hczq3_0 := blk_cell BK322.out 0; have hczq3_1 := blk_cell BK322.out 1; have hczq3_2 := blk_cell BK322.out 2; have hczq3_3 := blk_cell BK322.out 3; have hczq3_4 := blk_cell BK322.out 4; have hfzq3_0 := blk_frozen BK322.out 0; have hfzq3_1 := blk_frozen BK322.out 1; have hfzq3_2 := blk_frozen BK322.out 2; have hfzq3_3 := blk_frozen BK322.out 3; have hfzq3_4 := blk_frozen BK322.out 4; have hczq4_0 := blk_cell BK323.out 0; have hczq4_1 := blk_cell BK323.out 1; have hczq4_2 := blk_cell BK323.out 2; have hczq4_3 := blk_cell BK323.out 3; have hczq4_4 := blk_cell BK323.out 4; have hfzq4_0 := blk_frozen BK323.out 0; have hfzq4_1 := blk_frozen BK323.out 1; have hfzq4_2 := blk_frozen BK323.out 2; have hfzq4_3 := blk_frozen BK323.out 3; have hfzq4_4 := blk_frozen BK323.out 4) | (go_at_call 72; (with_reducible refine (slices_EqualFunc_api_Type_api_Type_api_Type_api_Type_at_code_sameType.calls k _ _ l0_2 _ _ l1_2  true _ ?side1 ?side2 ?side3 ?side4 A7.out).mono ?_); (case side1 => exact cb HR0_2 HB); (case side2 => exact HC0_2.out); (case side3 => exact cb HR1_2 HB); (case side4 => exact HC1_2.out); rintro e wq4 ⟨rfl, hb⟩; replace BK322 := Aside0.mk (blk_below (g := gb322) (o := .cells #[.string a0_0, .slice A0_1 l0_1.length c0_1, .slice A0_2 l0_2.length c0_2, .int .i64 a0_3, .slice A0_4 l0_4.length c0_4] 50 (0, 0)) (bk BK322) hb); replace BK323 := Aside0.mk (blk_below (g := gb323) (o := .cells #[.string a1_0, .slice A1_1 l1_1.length c1_1, .slice A1_2 l1_2.length c1_2, .int .i64 a1_3, .slice A1_4 l1_4.length c1_4] 50 (0, 0)) (bk BK323) hb); replace HB := Aside0.mk (below_step (bl HB) hb); clear hb; have hczq5_0 := blk_cell BK322.out 0; have hczq5_1 := blk_cell BK322.out 1; have hczq5_2 := blk_cell BK322.out 2; have hczq5_3 := blk_cell BK322.out 3; have hczq5_4 := blk_cell BK322.out 4; have hfzq5_0 := blk_frozen BK322.out 0; have hfzq5_1 := blk_frozen BK322.out 1; have hfzq5_2 := blk_frozen BK322.out 2; have hfzq5_3 := blk_frozen BK322.out 3; have hfzq5_4 := blk_frozen BK322.out 4; have hczq6_0 := blk_cell BK323.out 0; have hczq6_1 := blk_cell BK323.out 1; have hczq6_2 := blk_cell BK323.out 2; have hczq6_3 := blk_cell BK323.out 3; have hczq6_4 := blk_cell BK323.out 4; have hfzq6_0 := blk_frozen BK323.out 0; have hfzq6_1 := blk_frozen BK323.out 1; have hfzq6_2 := blk_frozen BK323.out 2; have hfzq6_3 := blk_frozen BK323.out 3; have hfzq6_4 := blk_frozen BK323.out 4) | (go_at_call 74; (with_reducible refine (slices_EqualFunc_api_Ins_api_Ins_api_Ins_api_Ins_at_code_sameIns.calls k _ _ l0_4 _ _ l1_4  t326 _ ?side1 ?side2 ?side3 ?side4 A9.out).mono ?_); (case side1 => exact cb HR0_4 HB); (case side2 => exact HC0_4.out); (case side3 => exact cb HR1_4 HB); (case side4 => exact HC1_4.out); rintro e wq5 ⟨rfl, hb⟩; replace BK322 := Aside0.mk (blk_below (g := gb322) (o := .cells #[.string a0_0, .slice A0_1 l0_1.length c0_1, .slice A0_2 l0_2.length c0_2, .int .i64 a0_3, .slice A0_4 l0_4.length c0_4] 50 (0, 0)) (bk BK322) hb); replace BK323 := Aside0.mk (blk_below (g := gb323) (o := .cells #[.string a1_0, .slice A1_1 l1_1.length c1_1, .slice A1_2 l1_2.length c1_2, .int .i64 a1_3, .slice A1_4 l1_4.length c1_4] 50 (0, 0)) (bk BK323) hb); replace HB := Aside0.mk (below_step (bl HB) hb); clear hb) | ((with_reducible refine gate_dst (N := 3) rfl ?_); refine bx (N := 3) (cs := #[.string a1_0, .slice A1_1 l1_1.length c1_1, .slice A1_2 l1_2.length c1_2, .int .i64 a1_3, .slice A1_4 l1_4.length c1_4]) (t := 50) ?_; intro gb323 hg wq2 hbox hb; have n0_ := Aside0.mk (blk_below (g := gb322) (o := .cells #[.string a0_0, .slice A0_1 l0_1.length c0_1, .slice A0_2 l0_2.length c0_2, .int .i64 a0_3, .slice A0_4 l0_4.length c0_4] 50 (0, 0)) (bk BK322) hb); have n1_ := Aside0.mk (below_step (bl HB) hb); have n2_ := Aside0.mk (hbox); have n3_ := (gz hg HB : Aside0 (w.heap.size ≤ gb323)); have n4_ := (gz hg HB : Aside0 (w.heap.size ≤ gb323)); have n5_ := Aside0.mk ((by rw [hg]; exact Nat.ne_of_lt (blk_lt (g := gb322) (o := .cells #[.string a0_0, .slice A0_1 l0_1.length c0_1, .slice A0_2 l0_2.length c0_2, .int .i64 a0_3, .slice A0_4 l0_4.length c0_4] 50 (0, 0)) (bk BK322)) : gb322 ≠ gb323)); have n6_ := Aside0.mk ((by rw [hg]; exact Nat.ne_of_gt (blk_lt (g := gb322) (o := .cells #[.string a0_0, .slice A0_1 l0_1.length c0_1, .slice A0_2 l0_2.length c0_2, .int .i64 a0_3, .slice A0_4 l0_4.length c0_4] 50 (0, 0)) (bk BK322)) : gb323 ≠ gb322)); clear BK322; clear HB; have BK322 := n0_; have HB := n1_; have BK323 := n2_; have GW323 := n3_; have GE323 := n4_; have NB322_323 := n5_; have NB323_322 := n6_; clear n0_ n1_ n2_ n3_ n4_ n5_ n6_; clear hb hbox hg; have hnb24 := NB322_323.out; have hnc24 := NB323_322.out; have hczq1_0 := blk_cell BK322.out 0; have hczq1_1 := blk_cell BK322.out 1; have hczq1_2 := blk_cell BK322.out 2; have hczq1_3 := blk_cell BK322.out 3; have hczq1_4 := blk_cell BK322.out 4; have hfzq1_0 := blk_frozen BK322.out 0; have hfzq1_1 := blk_frozen BK322.out 1; have hfzq1_2 := blk_frozen BK322.out 2; have hfzq1_3 := blk_frozen BK322.out 3; have hfzq1_4 := blk_frozen BK322.out 4; have hczq2_0 := blk_cell BK323.out 0; have hczq2_1 := blk_cell BK323.out 1; have hczq2_2 := blk_cell BK323.out 2; have hczq2_3 := blk_cell BK323.out 3; have hczq2_4 := blk_cell BK323.out 4; have hfzq2_0 := blk_frozen BK323.out 0; have hfzq2_1 := blk_frozen BK323.out 1; have hfzq2_2 := blk_frozen BK323.out 2; have hfzq2_3 := blk_frozen BK323.out 3; have hfzq2_4 := blk_frozen BK323.out 4) | (go_at_call 72; (with_reducible refine (slices_EqualFunc_api_Type_api_Type_api_Type_api_Type_at_code_sameType.calls k _ _ l0_2 _ _ l1_2  false _ ?side1 ?side2 ?side3 ?side4 A7.out).mono ?_); (case side1 => exact cb HR0_2 HB); (case side2 => exact HC0_2.out); (case side3 => exact cb HR1_2 HB); (case side4 => exact HC1_2.out); rintro e wq4 ⟨rfl, hb⟩; replace BK322 := Aside0.mk (blk_below (g := gb322) (o := .cells #[.string a0_0, .slice A0_1 l0_1.length c0_1, .slice A0_2 l0_2.length c0_2, .int .i64 a0_3, .slice A0_4 l0_4.length c0_4] 50 (0, 0)) (bk BK322) hb); replace BK323 := Aside0.mk (blk_below (g := gb323) (o := .cells #[.string a1_0, .slice A1_1 l1_1.length c1_1, .slice A1_2 l1_2.length c1_2, .int .i64 a1_3, .slice A1_4 l1_4.length c1_4] 50 (0, 0)) (bk BK323) hb); replace HB := Aside0.mk (below_step (bl HB) hb); clear hb) | ((with_reducible refine gate_dst (N := 3) rfl ?_); refine bx (N := 3) (cs := #[.string a1_0, .slice A1_1 l1_1.length c1_1, .slice A1_2 l1_2.length c1_2, .int .i64 a1_3, .slice A1_4 l1_4.length c1_4]) (t := 50) ?_; intro gb323 hg wq2 hbox hb; have n0_ := Aside0.mk (blk_below (g := gb322) (o := .cells #[.string a0_0, .slice A0_1 l0_1.length c0_1, .slice A0_2 l0_2.length c0_2, .int .i64 a0_3, .slice A0_4 l0_4.length c0_4] 50 (0, 0)) (bk BK322) hb); have n1_ := Aside0.mk (below_step (bl HB) hb); have n2_ := Aside0.mk (hbox); have n3_ := (gz hg HB : Aside0 (w.heap.size ≤ gb323)); have n4_ := (gz hg HB : Aside0 (w.heap.size ≤ gb323)); have n5_ := Aside0.mk ((by rw [hg]; exact Nat.ne_of_lt (blk_lt (g := gb322) (o := .cells #[.string a0_0, .slice A0_1 l0_1.length c0_1, .slice A0_2 l0_2.length c0_2, .int .i64 a0_3, .slice A0_4 l0_4.length c0_4] 50 (0, 0)) (bk BK322)) : gb322 ≠ gb323)); have n6_ := Aside0.mk ((by rw [hg]; exact Nat.ne_of_gt (blk_lt (g := gb322) (o := .cells #[.string a0_0, .slice A0_1 l0_1.length c0_1, .slice A0_2 l0_2.length c0_2, .int .i64 a0_3, .slice A0_4 l0_4.length c0_4] 50 (0, 0)) (bk BK322)) : gb323 ≠ gb322)); clear BK322; clear HB; have BK322 := n0_; have HB := n1_; have BK323 := n2_; have GW323 := n3_; have GE323 := n4_; have NB322_323 := n5_; have NB323_322 := n6_; clear n0_ n1_ n2_ n3_ n4_ n5_ n6_; clear hb hbox hg; have hnb33 := NB322_323.out; have hnc33 := NB323_322.out; have hczq1_0 := blk_cell BK322.out 0; have hczq1_1 := blk_cell BK322.out 1; have hczq1_2 := blk_cell BK322.out 2; have hczq1_3 := blk_cell BK322.out 3; have hczq1_4 := blk_cell BK322.out 4; have hfzq1_0 := blk_frozen BK322.out 0; have hfzq1_1 := blk_frozen BK322.out 1; have hfzq1_2 := blk_frozen BK322.out 2; have hfzq1_3 := blk_frozen BK322.out 3; have hfzq1_4 := blk_frozen BK322.out 4; have hczq2_0 := blk_cell BK323.out 0; have hczq2_1 := blk_cell BK323.out 1; have hczq2_2 := blk_cell BK323.out 2; have hczq2_3 := blk_cell BK323.out 3; have hczq2_4 := blk_cell BK323.out 4; have hfzq2_0 := blk_frozen BK323.out 0; have hfzq2_1 := blk_frozen BK323.out 1; have hfzq2_2 := blk_frozen BK323.out 2; have hfzq2_3 := blk_frozen BK323.out 3; have hfzq2_4 := blk_frozen BK323.out 4) | (go_at_call 72; (with_reducible refine (slices_EqualFunc_api_Type_api_Type_api_Type_api_Type_at_code_sameType.calls k _ _ l0_1 _ _ l1_1  false _ ?side1 ?side2 ?side3 ?side4 A5.out).mono ?_); (case side1 => exact cb HR0_1 HB); (case side2 => exact HC0_1.out); (case side3 => exact cb HR1_1 HB); (case side4 => exact HC1_1.out); rintro e wq3 ⟨rfl, hb⟩; replace BK322 := Aside0.mk (blk_below (g := gb322) (o := .cells #[.string a0_0, .slice A0_1 l0_1.length c0_1, .slice A0_2 l0_2.length c0_2, .int .i64 a0_3, .slice A0_4 l0_4.length c0_4] 50 (0, 0)) (bk BK322) hb); replace BK323 := Aside0.mk (blk_below (g := gb323) (o := .cells #[.string a1_0, .slice A1_1 l1_1.length c1_1, .slice A1_2 l1_2.length c1_2, .int .i64 a1_3, .slice A1_4 l1_4.length c1_4] 50 (0, 0)) (bk BK323) hb); replace HB := Aside0.mk (below_step (bl HB) hb); clear hb) | ((with_reducible refine gate_dst (N := 3) rfl ?_); refine bx (N := 3) (cs := #[.string a1_0, .slice A1_1 l1_1.length c1_1, .slice A1_2 l1_2.length c1_2, .int .i64 a1_3, .slice A1_4 l1_4.length c1_4]) (t := 50) ?_; intro gb323 hg wq2 hbox hb; have n0_ := Aside0.mk (blk_below (g := gb322) (o := .cells #[.string a0_0, .slice A0_1 l0_1.length c0_1, .slice A0_2 l0_2.length c0_2, .int .i64 a0_3, .slice A0_4 l0_4.length c0_4] 50 (0, 0)) (bk BK322) hb); have n1_ := Aside0.mk (below_step (bl HB) hb); have n2_ := Aside0.mk (hbox); have n3_ := (gz hg HB : Aside0 (w.heap.size ≤ gb323)); have n4_ := (gz hg HB : Aside0 (w.heap.size ≤ gb323)); have n5_ := Aside0.mk ((by rw [hg]; exact Nat.ne_of_lt (blk_lt (g := gb322) (o := .cells #[.string a0_0, .slice A0_1 l0_1.length c0_1, .slice A0_2 l0_2.length c0_2, .int .i64 a0_3, .slice A0_4 l0_4.length c0_4] 50 (0, 0)) (bk BK322)) : gb322 ≠ gb323)); have n6_ := Aside0.mk ((by rw [hg]; exact Nat.ne_of_gt (blk_lt (g := gb322) (o := .cells #[.string a0_0, .slice A0_1 l0_1.length c0_1, .slice A0_2 l0_2.length c0_2, .int .i64 a0_3, .slice A0_4 l0_4.length c0_4] 50 (0, 0)) (bk BK322)) : gb323 ≠ gb322)); clear BK322; clear HB; have BK322 := n0_; have HB := n1_; have BK323 := n2_; have GW323 := n3_; have GE323 := n4_; have NB322_323 := n5_; have NB323_322 := n6_; clear n0_ n1_ n2_ n3_ n4_ n5_ n6_; clear hb hbox hg; have hnb39 := NB322_323.out; have hnc39 := NB323_322.out; have hczq1_0 := blk_cell BK322.out 0; have hczq1_1 := blk_cell BK322.out 1; have hczq1_2 := blk_cell BK322.out 2; have hczq1_3 := blk_cell BK322.out 3; have hczq1_4 := blk_cell BK322.out 4; have hfzq1_0 := blk_frozen BK322.out 0; have hfzq1_1 := blk_frozen BK322.out 1; have hfzq1_2 := blk_frozen BK322.out 2; have hfzq1_3 := blk_frozen BK322.out 3; have hfzq1_4 := blk_frozen BK322.out 4; have hczq2_0 := blk_cell BK323.out 0; have hczq2_1 := blk_cell BK323.out 1; have hczq2_2 := blk_cell BK323.out 2; have hczq2_3 := blk_cell BK323.out 3; have hczq2_4 := blk_cell BK323.out 4; have hfzq2_0 := blk_frozen BK323.out 0; have hfzq2_1 := blk_frozen BK323.out 1; have hfzq2_2 := blk_frozen BK323.out 2; have hfzq2_3 := blk_frozen BK323.out 3; have hfzq2_4 := blk_frozen BK323.out 4) | ((with_reducible refine gate_dst (N := 3) rfl ?_); refine bx (N := 3) (cs := #[.string a1_0, .slice A1_1 l1_1.length c1_1, .slice A1_2 l1_2.length c1_2, .int .i64 a1_3, .slice A1_4 l1_4.length c1_4]) (t := 50) ?_; intro gb323 hg wq2 hbox hb; have n0_ := Aside0.mk (blk_below (g := gb322) (o := .cells #[.string a0_0, .slice A0_1 l0_1.length c0_1, .slice A0_2 l0_2.length c0_2, .int .i64 a0_3, .slice A0_4 l0_4.length c0_4] 50 (0, 0)) (bk BK322) hb); have n1_ := Aside0.mk (below_step (bl HB) hb); have n2_ := Aside0.mk (hbox); have n3_ := (gz hg HB : Aside0 (w.heap.size ≤ gb323)); have n4_ := (gz hg HB : Aside0 (w.heap.size ≤ gb323)); have n5_ := Aside0.mk ((by rw [hg]; exact Nat.ne_of_lt (blk_lt (g := gb322) (o := .cells #[.string a0_0, .slice A0_1 l0_1.length c0_1, .slice A0_2 l0_2.length c0_2, .int .i64 a0_3, .slice A0_4 l0_4.length c0_4] 50 (0, 0)) (bk BK322)) : gb322 ≠ gb323)); have n6_ := Aside0.mk ((by rw [hg]; exact Nat.ne_of_gt (blk_lt (g := gb322) (o := .cells #[.string a0_0, .slice A0_1 l0_1.length c0_1, .slice A0_2 l0_2.length c0_2, .int .i64 a0_3, .slice A0_4 l0_4.length c0_4] 50 (0, 0)) (bk BK322)) : gb323 ≠ gb322)); clear BK322; clear HB; have BK322 := n0_; have HB := n1_; have BK323 := n2_; have GW323 := n3_; have GE323 := n4_; have NB322_323 := n5_; have NB323_322 := n6_; clear n0_ n1_ n2_ n3_ n4_ n5_ n6_; clear hb hbox hg; have hnb44 := NB322_323.out; have hnc44 := NB323_322.out; have hczq1_0 := blk_cell BK322.out 0; have hczq1_1 := blk_cell BK322.out 1; have hczq1_2 := blk_cell BK322.out 2; have hczq1_3 := blk_cell BK322.out 3; have hczq1_4 := blk_cell BK322.out 4; have hfzq1_0 := blk_frozen BK322.out 0; have hfzq1_1 := blk_frozen BK322.out 1; have hfzq1_2 := blk_frozen BK322.out 2; have hfzq1_3 := blk_frozen BK322.out 3; have hfzq1_4 := blk_frozen BK322.out 4; have hczq2_0 := blk_cell BK323.out 0; have hczq2_1 := blk_cell BK323.out 1; have hczq2_2 := blk_cell BK323.out 2; have hczq2_3 := blk_cell BK323.out 3; have hczq2_4 := blk_cell BK323.out 4; have hfzq2_0 := blk_frozen BK323.out 0; have hfzq2_1 := blk_frozen BK323.out 1; have hfzq2_2 := blk_frozen BK323.out 2; have hfzq2_3 := blk_frozen BK323.out 3; have hfzq2_4 := blk_frozen BK323.out 4)))
 ·go_ret
  exact ⟨re, bl HB⟩
 ·go_ret
  exact ⟨re, bl HB⟩
 ·go_ret
  exact ⟨re, bl HB⟩
 ·go_ret
  exact ⟨re, bl HB⟩
 ·go_ret
  exact ⟨re, bl HB⟩
def slices_EqualFunc_api_Routine_api_Routine_api_Routine_api_Routine_at_code_Same_1.l0 : Nat → List (S50) → List (S50) → Int → Int → Option (Bool)
 | 0, _, _, _, _ => none
 | k + 1, x1, x15, x16, x17 => if x17 < x16 then (if 0 ≤ x17 then (if x17 < (x15.length : Int) then (if x17 < (x1.length : Int) then ((code_Same_1.f k ((rd_T50 x15 x17).f0) ((rd_T50 x15 x17).f1) ((rd_T50 x15 x17).f2) ((rd_T50 x15 x17).f3) ((rd_T50 x15 x17).f4) ((rd_T50 x1 x17).f0) ((rd_T50 x1 x17).f1) ((rd_T50 x1 x17).f2) ((rd_T50 x1 x17).f3) ((rd_T50 x1 x17).f4)).bind fun t331 => (if t331 = true then (slices_EqualFunc_api_Routine_api_Routine_api_Routine_api_Routine_at_code_Same_1.l0 k x1 x15 x16 (wrap64 (x17 + 1))) else (some false))) else (none)) else (none)) else (none)) else (some true)
def slices_EqualFunc_api_Routine_api_Routine_api_Routine_api_Routine_at_code_Same_1.f (k : Nat) (l0 : List (S50)) (l1 : List (S50))  : Option (Bool) := if (l0.length : Int) = (l1.length : Int) then (slices_EqualFunc_api_Routine_api_Routine_api_Routine_api_Routine_at_code_Same_1.l0 k l1 l0 (l0.length : Int) 0) else (some false)
set_option maxHeartbeats 8000000 in
set_option maxRecDepth 100000 in
theorem slices_EqualFunc_api_Routine_api_Routine_api_Routine_api_Routine_at_code_Same_1.calls (k : Nat) (A0 : Option Addr) (c0 : Nat) (l0 : List (S50)) (A1 : Option Addr) (c1 : Nat) (l1 : List (S50))  (r : Bool) (w : World) (hr0 : Kd.C k50 w A0 l0.length l0) (hc0 : l0.length ≤ c0) (hr1 : Kd.C k50 w A1 l1.length l1) (hc1 : l1.length ≤ c1) (h : slices_EqualFunc_api_Routine_api_Routine_api_Routine_api_Routine_at_code_Same_1.f k l0 l1 = some r) :
  Calls Tryz.prog 70 #[.slice A0 l0.length c0, .slice A1 l1.length c1, .func (.func 71) #[] #[]] w fun e w' => e = .returned (.bool r) ∧ Below w.heap.size w w' := by
 have hu50 := Tryz.underlying50
 have HR0 := Aside0.mk hr0
 have HC0 := Aside0.mk hc0
 clear hr0 hc0
 have HR1 := Aside0.mk hr1
 have HC1 := Aside0.mk hc1
 clear hr1 hc1
 have HB := Aside0.mk (Below.refl w.heap.size w)
 have H : (if (l0.length : Int) = (l1.length : Int) then (slices_EqualFunc_api_Routine_api_Routine_api_Routine_api_Routine_at_code_Same_1.l0 k l1 l0 (l0.length : Int) 0) else (some false)) = some r := h
 clear h
 by_cases c4 : (l0.length : Int) = (l1.length : Int)
 ·rw [if_pos c4] at H
  have c4b0 : ((l0.length : Int) == (l1.length : Int)) = true := beq_iff_eq.mpr c4
  have c4b1 : ((l0.length : Int) != (l1.length : Int)) = false := bne_eq_false_iff_eq.mpr c4
  have c4b2 : (l0.length == l1.length) = true := by first | simpa using c4 | (simp at c4 ⊢; omega)
  clear c4
  have H' := Aside0.mk H
  clear H
  go_enter Tryz.func70, Tryz.ntmps70
  go_wp2
  go_loopg [17] k (fun kq v17 w' => ∃ (x17_1 : Int), v17 = .int .i64 x17_1 ∧ Aside0 (slices_EqualFunc_api_Routine_api_Routine_api_Routine_api_Routine_at_code_Same_1.l0 kq l1 l0 (l0.length : Int) x17_1 = some r) ∧ Aside0 (kq ≤ k) ∧ Aside0 (Below w.heap.size w w'))
  case atStart => exact ⟨(0), rs, H', ⟨Nat.le_refl _⟩, ⟨bl HB⟩⟩
  case round =>
   clear H'
   (try clear c1); (try clear p2); (try clear c4); (try clear c4b0); (try clear c4b1); (try clear c4b2)
   obtain ⟨x17_1, rfl, HA, HK1, HB⟩ := hrel
   cases gk with
   | zero => exact absurd HA.out (by simp [slices_EqualFunc_api_Routine_api_Routine_api_Routine_api_Routine_at_code_Same_1.l0])
   | succ k1 =>
    have H := HA.out
    clear HA
    simp only [slices_EqualFunc_api_Routine_api_Routine_api_Routine_api_Routine_at_code_Same_1.l0] at H
    by_cases c5 : x17_1 < (l0.length : Int)
    focus
     rw [if_pos c5] at H
     have c5b0 : decide (x17_1 < (l0.length : Int)) = true := decide_eq_true c5
     clear c5
     by_cases c6 : 0 ≤ x17_1
     focus
      rw [if_pos c6] at H
      have c6b0 : decide (0 ≤ x17_1) = true := decide_eq_true c6
      clear c6
      by_cases c7 : x17_1 < (l0.length : Int)
      focus
       rw [if_pos c7] at H
       have c7b0 : decide (x17_1 < (l0.length : Int)) = true := decide_eq_true c7
       clear c7
       by_cases c8 : x17_1 < (l1.length : Int)
       focus
        rw [if_pos c8] at H
        have c8b0 : decide (x17_1 < (l1.length : Int)) = true := decide_eq_true c8
        clear c8
        replace H := Option.bind_eq_some_iff.mp H
        obtain ⟨t331, A90, H⟩ := H
        (try dsimp only at H)
        have A9 := Aside0.mk A90
        clear A90
        by_cases c10 : t331 = true
        focus
         subst c10
         have H1 : (slices_EqualFunc_api_Routine_api_Routine_api_Routine_api_Routine_at_code_Same_1.l0 k1 l1 l0 (l0.length : Int) (wrap64 (x17_1 + 1))) = some r := by rw [if_pos rfl] at H; exact H
         clear H
         have H := H1
         clear H1
         have H' := Aside0.mk H
         clear H
         have p327 : 0 ≤ (x17_1 : Int) := oa
         have q327 : x17_1 < (l0.length : Int) := oa
         obtain ⟨ad327, A327_1, c327_1, A327_2, c327_2, A327_4, c327_4, e327, hx327_0, hx327_1, hx327_2, hx327_3, hx327_4, hl327_1, hi327_1, hl327_2, hi327_2, hl327_4, hi327_4⟩ := at_T50 HR0.out x17_1 p327 q327
         cases e327
         replace hx327_0 := xb HB hx327_0
         replace hx327_1 := xb HB hx327_1
         replace hx327_2 := xb HB hx327_2
         replace hx327_3 := xb HB hx327_3
         replace hx327_4 := xb HB hx327_4
         have HR327_1 := Aside0.mk hi327_1
         have HC327_1 := Aside0.mk hl327_1
         clear hi327_1 hl327_1
         have HR327_2 := Aside0.mk hi327_2
         have HC327_2 := Aside0.mk hl327_2
         clear hi327_2 hl327_2
         have HR327_4 := Aside0.mk hi327_4
         have HC327_4 := Aside0.mk hl327_4
         clear hi327_4 hl327_4
         replace p327 := eq_true p327
         replace q327 := eq_true q327
        rotate_left 1
        focus
         replace c10 := Bool.eq_false_iff.mpr c10
         subst c10
         have H1 : (some false) = some r := by rw [if_neg (show ¬ (false = true) by decide)] at H; exact H
         clear H
         have H := H1
         clear H1
         obtain rfl := Option.some.inj H
         have p327 : 0 ≤ (x17_1 : Int) := oa
         have q327 : x17_1 < (l0.length : Int) := oa
         obtain ⟨ad327, A327_1, c327_1, A327_2, c327_2, A327_4, c327_4, e327, hx327_0, hx327_1, hx327_2, hx327_3, hx327_4, hl327_1, hi327_1, hl327_2, hi327_2, hl327_4, hi327_4⟩ := at_T50 HR0.out x17_1 p327 q327
         cases e327
         replace hx327_0 := xb HB hx327_0
         replace hx327_1 := xb HB hx327_1
         replace hx327_2 := xb HB hx327_2
         replace hx327_3 := xb HB hx327_3
         replace hx327_4 := xb HB hx327_4
         have HR327_1 := Aside0.mk hi327_1
         have HC327_1 := Aside0.mk hl327_1
         clear hi327_1 hl327_1
         have HR327_2 := Aside0.mk hi327_2
         have HC327_2 := Aside0.mk hl327_2
         clear hi327_2 hl327_2
         have HR327_4 := Aside0.mk hi327_4
         have HC327_4 := Aside0.mk hl327_4
         clear hi327_4 hl327_4
         replace p327 := eq_true p327
         replace q327 := eq_true q327
        rotate_left 1
       rotate_left 2
       focus
        rw [if_neg c8] at H
        exact absurd H (by simp)
      rotate_left 2
      focus
       rw [if_neg c7] at H
       exact absurd H (by simp)
     rotate_left 2
     focus
      rw [if_neg c6] at H
      exact absurd H (by simp)
    rotate_left 2
    focus
     rw [if_neg c5] at H
     have c5b0 : decide (x17_1 < (l0.length : Int)) = false := decide_eq_false c5
     clear c5
     obtain rfl := Option.some.inj H
     go_wp2
     go_ret
     exact ⟨re, bl HB⟩
    all_goals (go_wp2_with (first | ((with_reducible refine gate_dst (N := 8) rfl ?_); refine bx (N := 8) (cs := #[.string (⟨#[]⟩ : ByteArray), .slice none 0 0, .slice none 0 0, .int .i64 0, .slice none 0 0]) (t := 50) ?_; intro gb328 hg wq1 hbox hb; have BK328 := Aside0.mk (hbox); have GW328 := (gz hg HB : Aside0 (w.heap.size ≤ gb328)); have GE328 := (gz hg HB : Aside0 (w.heap.size ≤ gb328)); replace HB := Aside0.mk (below_step (bl HB) hb); clear hb hbox hg; have hczq1_0 := blk_cell BK328.out 0; have hczq1_1 := blk_cell BK328.out 1; have hczq1_2 := blk_cell BK328.out 2; have hczq1_3 := blk_cell BK328.out 3; have hczq1_4 := blk_cell BK328.out 4; have hfzq1_0 := blk_frozen BK328.out 0; have hfzq1_1 := blk_frozen BK328.out 1; have hfzq1_2 := blk_frozen BK328.out 2; have hfzq1_3 := blk_frozen BK328.out 3; have hfzq1_4 := blk_frozen BK328.out 4; have p329 : 0 ≤ (x17_1 : Int) := oa; have q329 : x17_1 < (l1.length : Int) := oa; obtain ⟨ad329, A329_1, c329_1, A329_2, c329_2, A329_4, c329_4, e329, hx329_0, hx329_1, hx329_2, hx329_3, hx329_4, hl329_1, hi329_1, hl329_2, hi329_2, hl329_4, hi329_4⟩ := at_T50 HR1.out x17_1 p329 q329; cases e329; have hn329_0 : ad329.block ≠ gb328 := hne hx329_0 GW328; have hn329_1 : ad329.block ≠ gb328 := hne hx329_0 GW328; have hn329_2 : ad329.block ≠ gb328 := hne hx329_0 GW328; have hn329_3 : ad329.block ≠ gb328 := hne hx329_0 GW328; have hn329_4 : ad329.block ≠ gb328 := hne hx329_0 GW328; replace hx329_0 := xb HB hx329_0; replace hx329_1 := xb HB hx329_1; replace hx329_2 := xb HB hx329_2; replace hx329_3 := xb HB hx329_3; replace hx329_4 := xb HB hx329_4; have HR329_1 := Aside0.mk hi329_1; have HC329_1 := Aside0.mk hl329_1; clear hi329_1 hl329_1; have HR329_2 := Aside0.mk hi329_2; have HC329_2 := Aside0.mk hl329_2; clear hi329_2 hl329_2; have HR329_4 := Aside0.mk hi329_4; have HC329_4 := Aside0.mk hl329_4; clear hi329_4 hl329_4; have hF_ := fA hx329_0 gb328 [(0, .string ((rd_T50 l0 x17_1).f0)), (1, .slice A327_1 ((rd_T50 l0 x17_1).f1).length c327_1), (2, .slice A327_2 ((rd_T50 l0 x17_1).f2).length c327_2), (3, .int .i64 ((rd_T50 l0 x17_1).f3)), (4, .slice A327_4 ((rd_T50 l0 x17_1).f4).length c327_4)]; simp only [List.foldl] at hF_; replace hx329_0 := hF_ _ _ (an hn329_0) hx329_0; replace hx329_1 := hF_ _ _ (an hn329_0) hx329_1; replace hx329_2 := hF_ _ _ (an hn329_0) hx329_2; replace hx329_3 := hF_ _ _ (an hn329_0) hx329_3; replace hx329_4 := hF_ _ _ (an hn329_0) hx329_4; clear hF_; clear hn329_0; clear hn329_1; clear hn329_2; clear hn329_3; clear hn329_4; replace p329 := eq_true p329; replace q329 := eq_true q329) | ((with_reducible refine gate_dst (N := 9) rfl ?_); refine bx (N := 9) (cs := #[.string (⟨#[]⟩ : ByteArray), .slice none 0 0, .slice none 0 0, .int .i64 0, .slice none 0 0]) (t := 50) ?_; intro gb330 hg wq2 hbox hb; have n0_ := Aside0.mk (blk_below (g := gb328) (o := .cells #[.string ((rd_T50 l0 x17_1).f0), .slice A327_1 ((rd_T50 l0 x17_1).f1).length c327_1, .slice A327_2 ((rd_T50 l0 x17_1).f2).length c327_2, .int .i64 ((rd_T50 l0 x17_1).f3), .slice A327_4 ((rd_T50 l0 x17_1).f4).length c327_4] 50 (0, 0)) (by (with_reducible repeat (first | refine blk_drewN ?_ _ | refine blk_drew ?_ | refine blk_alloc ?_ _)); refine blk_put (cs := #[.string ((rd_T50 l0 x17_1).f0), .slice A327_1 ((rd_T50 l0 x17_1).f1).length c327_1, .slice A327_2 ((rd_T50 l0 x17_1).f2).length c327_2, .int .i64 ((rd_T50 l0 x17_1).f3), .slice none 0 0]) ?_ 4 _ rfl; (with_reducible repeat (first | refine blk_drewN ?_ _ | refine blk_drew ?_ | refine blk_alloc ?_ _)); refine blk_put (cs := #[.string ((rd_T50 l0 x17_1).f0), .slice A327_1 ((rd_T50 l0 x17_1).f1).length c327_1, .slice A327_2 ((rd_T50 l0 x17_1).f2).length c327_2, .int .i64 0, .slice none 0 0]) ?_ 3 _ rfl; (with_reducible repeat (first | refine blk_drewN ?_ _ | refine blk_drew ?_ | refine blk_alloc ?_ _)); refine blk_put (cs := #[.string ((rd_T50 l0 x17_1).f0), .slice A327_1 ((rd_T50 l0 x17_1).f1).length c327_1, .slice none 0 0, .int .i64 0, .slice none 0 0]) ?_ 2 _ rfl; (with_reducible repeat (first | refine blk_drewN ?_ _ | refine blk_drew ?_ | refine blk_alloc ?_ _)); refine blk_put (cs := #[.string ((rd_T50 l0 x17_1).f0), .slice none 0 0, .slice none 0 0, .int .i64 0, .slice none 0 0]) ?_ 1 _ rfl; (with_reducible repeat (first | refine blk_drewN ?_ _ | refine blk_drew ?_ | refine blk_alloc ?_ _)); refine blk_put (cs := #[.string (⟨#[]⟩ : ByteArray), .slice none 0 0, .slice none 0 0, .int .i64 0, .slice none 0 0]) ?_ 0 _ rfl; (with_reducible repeat (first | refine blk_drewN ?_ _ | refine blk_drew ?_ | refine blk_alloc ?_ _)); exact BK328.out) hb); have n1_ := Aside0.mk (below_step (bl HB) hb); have n2_ := Aside0.mk (hbox); have n3_ := (gz hg HB : Aside0 (w.heap.size ≤ gb330)); have n4_ := (gz hg HB : Aside0 (w.heap.size ≤ gb330)); have n5_ := Aside0.mk ((by rw [hg]; exact Nat.ne_of_lt (blk_lt (g := gb328) (o := .cells #[.string ((rd_T50 l0 x17_1).f0), .slice A327_1 ((rd_T50 l0 x17_1).f1).length c327_1, .slice A327_2 ((rd_T50 l0 x17_1).f2).length c327_2, .int .i64 ((rd_T50 l0 x17_1).f3), .slice A327_4 ((rd_T50 l0 x17_1).f4).length c327_4] 50 (0, 0)) (by (with_reducible repeat (first | refine blk_drewN ?_ _ | refine blk_drew ?_ | refine blk_alloc ?_ _)); refine blk_put (cs := #[.string ((rd_T50 l0 x17_1).f0), .slice A327_1 ((rd_T50 l0 x17_1).f1).length c327_1, .slice A327_2 ((rd_T50 l0 x17_1).f2).length c327_2, .int .i64 ((rd_T50 l0 x17_1).f3), .slice none 0 0]) ?_ 4 _ rfl; (with_reducible repeat (first | refine blk_drewN ?_ _ | refine blk_drew ?_ | refine blk_alloc ?_ _)); refine blk_put (cs := #[.string ((rd_T50 l0 x17_1).f0), .slice A327_1 ((rd_T50 l0 x17_1).f1).length c327_1, .slice A327_2 ((rd_T50 l0 x17_1).f2).length c327_2, .int .i64 0, .slice none 0 0]) ?_ 3 _ rfl; (with_reducible repeat (first | refine blk_drewN ?_ _ | refine blk_drew ?_ | refine blk_alloc ?_ _)); refine blk_put (cs := #[.string ((rd_T50 l0 x17_1).f0), .slice A327_1 ((rd_T50 l0 x17_1).f1).length c327_1, .slice none 0 0, .int .i64 0, .slice none 0 0]) ?_ 2 _ rfl; (with_reducible repeat (first | refine blk_drewN ?_ _ | refine blk_drew ?_ | refine blk_alloc ?_ _)); refine blk_put (cs := #[.string ((rd_T50 l0 x17_1).f0), .slice none 0 0, .slice none 0 0, .int .i64 0, .slice none 0 0]) ?_ 1 _ rfl; (with_reducible repeat (first | refine blk_drewN ?_ _ | refine blk_drew ?_ | refine blk_alloc ?_ _)); refine blk_put (cs := #[.string (⟨#[]⟩ : ByteArray), .slice none 0 0, .slice none 0 0, .int .i64 0, .slice none 0 0]) ?_ 0 _ rfl; (with_reducible repeat (first | refine blk_drewN ?_ _ | refine blk_drew ?_ | refine blk_alloc ?_ _)); exact BK328.out)) : gb328 ≠ gb330)); have n6_ := Aside0.mk ((by rw [hg]; exact Nat.ne_of_gt (blk_lt (g := gb328) (o := .cells #[.string ((rd_T50 l0 x17_1).f0), .slice A327_1 ((rd_T50 l0 x17_1).f1).length c327_1, .slice A327_2 ((rd_T50 l0 x17_1).f2).length c327_2, .int .i64 ((rd_T50 l0 x17_1).f3), .slice A327_4 ((rd_T50 l0 x17_1).f4).length c327_4] 50 (0, 0)) (by (with_reducible repeat (first | refine blk_drewN ?_ _ | refine blk_drew ?_ | refine blk_alloc ?_ _)); refine blk_put (cs := #[.string ((rd_T50 l0 x17_1).f0), .slice A327_1 ((rd_T50 l0 x17_1).f1).length c327_1, .slice A327_2 ((rd_T50 l0 x17_1).f2).length c327_2, .int .i64 ((rd_T50 l0 x17_1).f3), .slice none 0 0]) ?_ 4 _ rfl; (with_reducible repeat (first | refine blk_drewN ?_ _ | refine blk_drew ?_ | refine blk_alloc ?_ _)); refine blk_put (cs := #[.string ((rd_T50 l0 x17_1).f0), .slice A327_1 ((rd_T50 l0 x17_1).f1).length c327_1, .slice A327_2 ((rd_T50 l0 x17_1).f2).length c327_2, .int .i64 0, .slice none 0 0]) ?_ 3 _ rfl; (with_reducible repeat (first | refine blk_drewN ?_ _ | refine blk_drew ?_ | refine blk_alloc ?_ _)); refine blk_put (cs := #[.string ((rd_T50 l0 x17_1).f0), .slice A327_1 ((rd_T50 l0 x17_1).f1).length c327_1, .slice none 0 0, .int .i64 0, .slice none 0 0]) ?_ 2 _ rfl; (with_reducible repeat (first | refine blk_drewN ?_ _ | refine blk_drew ?_ | refine blk_alloc ?_ _)); refine blk_put (cs := #[.string ((rd_T50 l0 x17_1).f0), .slice none 0 0, .slice none 0 0, .int .i64 0, .slice none 0 0]) ?_ 1 _ rfl; (with_reducible repeat (first | refine blk_drewN ?_ _ | refine blk_drew ?_ | refine blk_alloc ?_ _)); refine blk_put (cs := #[.string (⟨#[]⟩ : ByteArray), .slice none 0 0, .slice none 0 0, .int .i64 0, .slice none 0 0]) ?_ 0 _ rfl; (with_reducible repeat (first | refine blk_drewN ?_ _ | refine blk_drew ?_ | refine blk_alloc ?_ _)); exact BK328.out)) : gb330 ≠ gb328)); clear BK328; clear HB; have BK328 := n0_; have HB := n1_; have BK330 := n2_; have GW330 := n3_; have GE330 := n4_; have NB328_330 := n5_; have NB330_328 := n6_; clear n0_ n1_ n2_ n3_ n4_ n5_ n6_; clear hb hbox hg; have hnb14 := NB330_328.out; have hnc14 := NB328_330.out; have hczq2_0 := blk_cell BK330.out 0; have hczq2_1 := blk_cell BK330.out 1; have hczq2_2 := blk_cell BK330.out 2; have hczq2_3 := blk_cell BK330.out 3; have hczq2_4 := blk_cell BK330.out 4; have hfzq2_0 := blk_frozen BK330.out 0; have hfzq2_1 := blk_frozen BK330.out 1; have hfzq2_2 := blk_frozen BK330.out 2; have hfzq2_3 := blk_frozen BK330.out 3; have hfzq2_4 := blk_frozen BK330.out 4; have hczq3_0 := blk_cell BK328.out 0; have hczq3_1 := blk_cell BK328.out 1; have hczq3_2 := blk_cell BK328.out 2; have hczq3_3 := blk_cell BK328.out 3; have hczq3_4 := blk_cell BK328.out 4; have hfzq3_0 := blk_frozen BK328.out 0; have hfzq3_1 := blk_frozen BK328.out 1; have hfzq3_2 := blk_frozen BK328.out 2; have hfzq3_3 := blk_frozen BK328.out 3; have hfzq3_4 := blk_frozen BK328.out 4) | (go_at_call 71; (with_reducible refine (code_Same_1.calls k1 ((rd_T50 l0 x17_1).f0) _ _ ((rd_T50 l0 x17_1).f1) _ _ ((rd_T50 l0 x17_1).f2) ((rd_T50 l0 x17_1).f3) _ _ ((rd_T50 l0 x17_1).f4) ((rd_T50 l1 x17_1).f0) _ _ ((rd_T50 l1 x17_1).f1) _ _ ((rd_T50 l1 x17_1).f2) ((rd_T50 l1 x17_1).f3) _ _ ((rd_T50 l1 x17_1).f4) true _ ?side1 ?side2 ?side3 ?side4 ?side5 ?side6 ?side7 ?side8 ?side9 ?side10 ?side11 ?side12 A9.out).mono ?_); (case side1 => exact Kd.C_below HR327_1.out (bl HB)); (case side2 => exact HC327_1.out); (case side3 => exact Kd.C_below HR327_2.out (bl HB)); (case side4 => exact HC327_2.out); (case side5 => exact Kd.C_below HR327_4.out (bl HB)); (case side6 => exact HC327_4.out); (case side7 => exact Kd.C_below HR329_1.out (bl HB)); (case side8 => exact HC329_1.out); (case side9 => exact Kd.C_below HR329_2.out (bl HB)); (case side10 => exact HC329_2.out); (case side11 => exact Kd.C_below HR329_4.out (bl HB)); (case side12 => exact HC329_4.out); rintro e wq3 ⟨rfl, hb⟩; replace BK328 := Aside0.mk (blk_below (g := gb328) (o := .cells #[.string ((rd_T50 l0 x17_1).f0), .slice A327_1 ((rd_T50 l0 x17_1).f1).length c327_1, .slice A327_2 ((rd_T50 l0 x17_1).f2).length c327_2, .int .i64 ((rd_T50 l0 x17_1).f3), .slice A327_4 ((rd_T50 l0 x17_1).f4).length c327_4] 50 (0, 0)) (by (with_reducible repeat (first | refine blk_drewN ?_ _ | refine blk_drew ?_ | refine blk_alloc ?_ _)); refine blk_far ?_ NB328_330.out _; (with_reducible repeat (first | refine blk_drewN ?_ _ | refine blk_drew ?_ | refine blk_alloc ?_ _)); refine blk_far ?_ NB328_330.out _; (with_reducible repeat (first | refine blk_drewN ?_ _ | refine blk_drew ?_ | refine blk_alloc ?_ _)); refine blk_far ?_ NB328_330.out _; (with_reducible repeat (first | refine blk_drewN ?_ _ | refine blk_drew ?_ | refine blk_alloc ?_ _)); refine blk_far ?_ NB328_330.out _; (with_reducible repeat (first | refine blk_drewN ?_ _ | refine blk_drew ?_ | refine blk_alloc ?_ _)); refine blk_far ?_ NB328_330.out _; (with_reducible repeat (first | refine blk_drewN ?_ _ | refine blk_drew ?_ | refine blk_alloc ?_ _)); exact BK328.out) hb); replace BK330 := Aside0.mk (blk_below (g := gb330) (o := .cells #[.string ((rd_T50 l1 x17_1).f0), .slice A329_1 ((rd_T50 l1 x17_1).f1).length c329_1, .slice A329_2 ((rd_T50 l1 x17_1).f2).length c329_2, .int .i64 ((rd_T50 l1 x17_1).f3), .slice A329_4 ((rd_T50 l1 x17_1).f4).length c329_4] 50 (0, 0)) (by (with_reducible repeat (first | refine blk_drewN ?_ _ | refine blk_drew ?_ | refine blk_alloc ?_ _)); refine blk_put (cs := #[.string ((rd_T50 l1 x17_1).f0), .slice A329_1 ((rd_T50 l1 x17_1).f1).length c329_1, .slice A329_2 ((rd_T50 l1 x17_1).f2).length c329_2, .int .i64 ((rd_T50 l1 x17_1).f3), .slice none 0 0]) ?_ 4 _ rfl; (with_reducible repeat (first | refine blk_drewN ?_ _ | refine blk_drew ?_ | refine blk_alloc ?_ _)); refine blk_put (cs := #[.string ((rd_T50 l1 x17_1).f0), .slice A329_1 ((rd_T50 l1 x17_1).f1).length c329_1, .slice A329_2 ((rd_T50 l1 x17_1).f2).length c329_2, .int .i64 0, .slice none 0 0]) ?_ 3 _ rfl; (with_reducible repeat (first | refine blk_drewN ?_ _ | refine blk_drew ?_ | refine blk_alloc ?_ _)); refine blk_put (cs := #[.string ((rd_T50 l1 x17_1).f0), .slice A329_1 ((rd_T50 l1 x17_1).f1).length c329_1, .slice none 0 0, .int .i64 0, .slice none 0 0]) ?_ 2 _ rfl; (with_reducible repeat (first | refine blk_drewN ?_ _ | refine blk_drew ?_ | refine blk_alloc ?_ _)); refine blk_put (cs := #[.string ((rd_T50 l1 x17_1).f0), .slice none 0 0, .slice none 0 0, .int .i64 0, .slice none 0 0]) ?_ 1 _ rfl; (with_reducible repeat (first | refine blk_drewN ?_ _ | refine blk_drew ?_ | refine blk_alloc ?_ _)); refine blk_put (cs := #[.string (⟨#[]⟩ : ByteArray), .slice none 0 0, .slice none 0 0, .int .i64 0, .slice none 0 0]) ?_ 0 _ rfl; (with_reducible repeat (first | refine blk_drewN ?_ _ | refine blk_drew ?_ | refine blk_alloc ?_ _)); exact BK330.out) hb); replace HB := Aside0.mk (below_step (bl HB) hb); clear hb) | ((with_reducible refine gate_dst (N := 9) rfl ?_); refine bx (N := 9) (cs := #[.string (⟨#[]⟩ : ByteArray), .slice none 0 0, .slice none 0 0, .int .i64 0, .slice none 0 0]) (t := 50) ?_; intro gb330 hg wq2 hbox hb; have n0_ := Aside0.mk (blk_below (g := gb328) (o := .cells #[.string ((rd_T50 l0 x17_1).f0), .slice A327_1 ((rd_T50 l0 x17_1).f1).length c327_1, .slice A327_2 ((rd_T50 l0 x17_1).f2).length c327_2, .int .i64 ((rd_T50 l0 x17_1).f3), .slice A327_4 ((rd_T50 l0 x17_1).f4).length c327_4] 50 (0, 0)) (by (with_reducible repeat (first | refine blk_drewN ?_ _ | refine blk_drew ?_ | refine blk_alloc ?_ _)); refine blk_put (cs := #[.string ((rd_T50 l0 x17_1).f0), .slice A327_1 ((rd_T50 l0 x17_1).f1).length c327_1, .slice A327_2 ((rd_T50 l0 x17_1).f2).length c327_2, .int .i64 ((rd_T50 l0 x17_1).f3), .slice none 0 0]) ?_ 4 _ rfl; (with_reducible repeat (first | refine blk_drewN ?_ _ | refine blk_drew ?_ | refine blk_alloc ?_ _)); refine blk_put (cs := #[.string ((rd_T50 l0 x17_1).f0), .slice A327_1 ((rd_T50 l0 x17_1).f1).length c327_1, .slice A327_2 ((rd_T50 l0 x17_1).f2).length c327_2, .int .i64 0, .slice none 0 0]) ?_ 3 _ rfl; (with_reducible repeat (first | refine blk_drewN ?_ _ | refine blk_drew ?_ | refine blk_alloc ?_ _)); refine blk_put (cs := #[.string ((rd_T50 l0 x17_1).f0), .slice A327_1 ((rd_T50 l0 x17_1).f1).length c327_1, .slice none 0 0, .int .i64 0, .slice none 0 0]) ?_ 2 _ rfl; (with_reducible repeat (first | refine blk_drewN ?_ _ | refine blk_drew ?_ | refine blk_alloc ?_ _)); refine blk_put (cs := #[.string ((rd_T50 l0 x17_1).f0), .slice none 0 0, .slice none 0 0, .int .i64 0, .slice none 0 0]) ?_ 1 _ rfl; (with_reducible repeat (first | refine blk_drewN ?_ _ | refine blk_drew ?_ | refine blk_alloc ?_ _)); refine blk_put (cs := #[.string (⟨#[]⟩ : ByteArray), .slice none 0 0, .slice none 0 0, .int .i64 0, .slice none 0 0]) ?_ 0 _ rfl; (with_reducible repeat (first | refine blk_drewN ?_ _ | refine blk_drew ?_ | refine blk_alloc ?_ _)); exact BK328.out) hb); have n1_ := Aside0.mk (below_step (bl HB) hb); have n2_ := Aside0.mk (hbox); have n3_ := (gz hg HB : Aside0 (w.heap.size ≤ gb330)); have n4_ := (gz hg HB : Aside0 (w.heap.size ≤ gb330)); have n5_ := Aside0.mk ((by rw [hg]; exact Nat.ne_of_lt (blk_lt (g := gb328) (o := .cells #[.string ((rd_T50 l0 x17_1).f0), .slice A327_1 ((rd_T50 l0 x17_1).f1).length c327_1, .slice A327_2 ((rd_T50 l0 x17_1).f2).length c327_2, .int .i64 ((rd_T50 l0 x17_1).f3), .slice A327_4 ((rd_T50 l0 x17_1).f4).length c327_4] 50 (0, 0)) (by (with_reducible repeat (first | refine blk_drewN ?_ _ | refine blk_drew ?_ | refine blk_alloc ?_ _)); refine blk_put (cs := #[.string ((rd_T50 l0 x17_1).f0), .slice A327_1 ((rd_T50 l0 x17_1).f1).length c327_1, .slice A327_2 ((rd_T50 l0 x17_1).f2).length c327_2, .int .i64 ((rd_T50 l0 x17_1).f3), .slice none 0 0]) ?_ 4 _ rfl; (with_reducible repeat (first | refine blk_drewN ?_ _ | refine blk_drew ?_ | refine blk_alloc ?_ _)); refine blk_put (cs := #[.string ((rd_T50 l0 x17_1).f0), .slice A327_1 ((rd_T50 l0 x17_1).f1).length c327_1, .slice A327_2 ((rd_T50 l0 x17_1).f2).length c327_2, .int .i64 0, .slice none 0 0]) ?_ 3 _ rfl; (with_reducible repeat (first | refine blk_drewN ?_ _ | refine blk_drew ?_ | refine blk_alloc ?_ _)); refine blk_put (cs := #[.string ((rd_T50 l0 x17_1).f0), .slice A327_1 ((rd_T50 l0 x17_1).f1).length c327_1, .slice none 0 0, .int .i64 0, .slice none 0 0]) ?_ 2 _ rfl; (with_reducible repeat (first | refine blk_drewN ?_ _ | refine blk_drew ?_ | refine blk_alloc ?_ _)); refine blk_put (cs := #[.string ((rd_T50 l0 x17_1).f0), .slice none 0 0, .slice none 0 0, .int .i64 0, .slice none 0 0]) ?_ 1 _ rfl; (with_reducible repeat (first | refine blk_drewN ?_ _ | refine blk_drew ?_ | refine blk_alloc ?_ _)); refine blk_put (cs := #[.string (⟨#[]⟩ : ByteArray), .slice none 0 0, .slice none 0 0, .int .i64 0, .slice none 0 0]) ?_ 0 _ rfl; (with_reducible repeat (first | refine blk_drewN ?_ _ | refine blk_drew ?_ | refine blk_alloc ?_ _)); exact BK328.out)) : gb328 ≠ gb330)); have n6_ := Aside0.mk ((by rw [hg]; exact Nat.ne_of_gt (blk_lt (g := gb328) (o := .cells #[.string ((rd_T50 l0 x17_1).f0), .slice A327_1 ((rd_T50 l0 x17_1).f1).length c327_1, .slice A327_2 ((rd_T50 l0 x17_1).f2).length c327_2, .int .i64 ((rd_T50 l0 x17_1).f3), .slice A327_4 ((rd_T50 l0 x17_1).f4).length c327_4] 50 (0, 0)) (by (with_reducible repeat (first | refine blk_drewN ?_ _ | refine blk_drew ?_ | refine blk_alloc ?_ _)); refine blk_put (cs := #[.string ((rd_T50 l0 x17_1).f0), .slice A327_1 ((rd_T50 l0 x17_1).f1).length c327_1, .slice A327_2 ((rd_T50 l0 x17_1).f2).length c327_2, .int .i64 ((rd_T50 l0 x17_1).f3), .slice none 0 0]) ?_ 4 _ rfl; (with_reducible repeat (first | refine blk_drewN ?_ _ | refine blk_drew ?_ | refine blk_alloc ?_ _)); refine blk_put (cs := #[.string ((rd_T50 l0 x17_1).f0), .slice A327_1 ((rd_T50 l0 x17_1).f1).length c327_1, .slice A327_2 ((rd_T50 l0 x17_1).f2).length c327_2, .int .i64 0, .slice none 0 0]) ?_ 3 _ rfl; (with_reducible repeat (first | refine blk_drewN ?_ _ | refine blk_drew ?_ | refine blk_alloc ?_ _)); refine blk_put (cs := #[.string ((rd_T50 l0 x17_1).f0), .slice A327_1 ((rd_T50 l0 x17_1).f1).length c327_1, .slice none 0 0, .int .i64 0, .slice none 0 0]) ?_ 2 _ rfl; (with_reducible repeat (first | refine blk_drewN ?_ _ | refine blk_drew ?_ | refine blk_alloc ?_ _)); refine blk_put (cs := #[.string ((rd_T50 l0 x17_1).f0), .slice none 0 0, .slice none 0 0, .int .i64 0, .slice none 0 0]) ?_ 1 _ rfl; (with_reducible repeat (first | refine blk_drewN ?_ _ | refine blk_drew ?_ | refine blk_alloc ?_ _)); refine blk_put (cs := #[.string (⟨#[]⟩ : ByteArray), .slice none 0 0, .slice none 0 0, .int .i64 0, .slice none 0 0]) ?_ 0 _ rfl; (with_reducible repeat (first | refine blk_drewN ?_ _ | refine blk_drew ?_ | refine blk_alloc ?_ _)); exact BK328.out)) : gb330 ≠ gb328)); clear BK328; clear HB; have BK328 := n0_; have HB := n1_; have BK330 := n2_; have GW330 := n3_; have GE330 := n4_; have NB328_330 := n5_; have NB330_328 := n6_; clear n0_ n1_ n2_ n3_ n4_ n5_ n6_; clear hb hbox hg; have hnb21 := NB330_328.out; have hnc21 := NB328_330.out; have hczq2_0 := blk_cell BK330.out 0; have hczq2_1 := blk_cell BK330.out 1; have hczq2_2 := blk_cell BK330.out 2; have hczq2_3 := blk_cell BK330.out 3; have hczq2_4 := blk_cell BK330.out 4; have hfzq2_0 := blk_frozen BK330.out 0; have hfzq2_1 := blk_frozen BK330.out 1; have hfzq2_2 := blk_frozen BK330.out 2; have hfzq2_3 := blk_frozen BK330.out 3; have hfzq2_4 := blk_frozen BK330.out 4; have hczq3_0 := blk_cell BK328.out 0; have hczq3_1 := blk_cell BK328.out 1; have hczq3_2 := blk_cell BK328.out 2; have hczq3_3 := blk_cell BK328.out 3; have hczq3_4 := blk_cell BK328.out 4; have hfzq3_0 := blk_frozen BK328.out 0; have hfzq3_1 := blk_frozen BK328.out 1; have hfzq3_2 := blk_frozen BK328.out 2; have hfzq3_3 := blk_frozen BK328.out 3; have hfzq3_4 := blk_frozen BK328.out 4) | (go_at_call 71; (with_reducible refine (code_Same_1.calls k1 ((rd_T50 l0 x17_1).f0) _ _ ((rd_T50 l0 x17_1).f1) _ _ ((rd_T50 l0 x17_1).f2) ((rd_T50 l0 x17_1).f3) _ _ ((rd_T50 l0 x17_1).f4) ((rd_T50 l1 x17_1).f0) _ _ ((rd_T50 l1 x17_1).f1) _ _ ((rd_T50 l1 x17_1).f2) ((rd_T50 l1 x17_1).f3) _ _ ((rd_T50 l1 x17_1).f4) false _ ?side1 ?side2 ?side3 ?side4 ?side5 ?side6 ?side7 ?side8 ?side9 ?side10 ?side11 ?side12 A9.out).mono ?_); (case side1 => exact Kd.C_below HR327_1.out (bl HB)); (case side2 => exact HC327_1.out); (case side3 => exact Kd.C_below HR327_2.out (bl HB)); (case side4 => exact HC327_2.out); (case side5 => exact Kd.C_below HR327_4.out (bl HB)); (case side6 => exact HC327_4.out); (case side7 => exact Kd.C_below HR329_1.out (bl HB)); (case side8 => exact HC329_1.out); (case side9 => exact Kd.C_below HR329_2.out (bl HB)); (case side10 => exact HC329_2.out); (case side11 => exact Kd.C_below HR329_4.out (bl HB)); (case side12 => exact HC329_4.out); rintro e wq3 ⟨rfl, hb⟩; replace BK328 := Aside0.mk (blk_below (g := gb328) (o := .cells #[.string ((rd_T50 l0 x17_1).f0), .slice A327_1 ((rd_T50 l0 x17_1).f1).length c327_1, .slice A327_2 ((rd_T50 l0 x17_1).f2).length c327_2, .int .i64 ((rd_T50 l0 x17_1).f3), .slice A327_4 ((rd_T50 l0 x17_1).f4).length c327_4] 50 (0, 0)) (by (with_reducible repeat (first | refine blk_drewN ?_ _ | refine blk_drew ?_ | refine blk_alloc ?_ _)); refine blk_far ?_ NB328_330.out _; (with_reducible repeat (first | refine blk_drewN ?_ _ | refine blk_drew ?_ | refine blk_alloc ?_ _)); refine blk_far ?_ NB328_330.out _; (with_reducible repeat (first | refine blk_drewN ?_ _ | refine blk_drew ?_ | refine blk_alloc ?_ _)); refine blk_far ?_ NB328_330.out _; (with_reducible repeat (first | refine blk_drewN ?_ _ | refine blk_drew ?_ | refine blk_alloc ?_ _)); refine blk_far ?_ NB328_330.out _; (with_reducible repeat (first | refine blk_drewN ?_ _ | refine blk_drew ?_ | refine blk_alloc ?_ _)); refine blk_far ?_ NB328_330.out _; (with_reducible repeat (first | refine blk_drewN ?_ _ | refine blk_drew ?_ | refine blk_alloc ?_ _)); exact BK328.out) hb); replace BK330 := Aside0.mk (blk_below (g := gb330) (o := .cells #[.string ((rd_T50 l1 x17_1).f0), .slice A329_1 ((rd_T50 l1 x17_1).f1).length c329_1, .slice A329_2 ((rd_T50 l1 x17_1).f2).length c329_2, .int .i64 ((rd_T50 l1 x17_1).f3), .slice A329_4 ((rd_T50 l1 x17_1).f4).length c329_4] 50 (0, 0)) (by (with_reducible repeat (first | refine blk_drewN ?_ _ | refine blk_drew ?_ | refine blk_alloc ?_ _)); refine blk_put (cs := #[.string ((rd_T50 l1 x17_1).f0), .slice A329_1 ((rd_T50 l1 x17_1).f1).length c329_1, .slice A329_2 ((rd_T50 l1 x17_1).f2).length c329_2, .int .i64 ((rd_T50 l1 x17_1).f3), .slice none 0 0]) ?_ 4 _ rfl; (with_reducible repeat (first | refine blk_drewN ?_ _ | refine blk_drew ?_ | refine blk_alloc ?_ _)); refine blk_put (cs := #[.string ((rd_T50 l1 x17_1).f0), .slice A329_1 ((rd_T50 l1 x17_1).f1).length c329_1, .slice A329_2 ((rd_T50 l1 x17_1).f2).length c329_2, .int .i64 0, .slice none 0 0]) ?_ 3 _ rfl; (with_reducible repeat (first | refine blk_drewN ?_ _ | refine blk_drew ?_ | refine blk_alloc ?_ _)); refine blk_put (cs := #[.string ((rd_T50 l1 x17_1).f0), .slice A329_1 ((rd_T50 l1 x17_1).f1).length c329_1, .slice none 0 0, .int .i64 0, .slice none 0 0]) ?_ 2 _ rfl; (with_reducible repeat (first | refine blk_drewN ?_ _ | refine blk_drew ?_ | refine blk_alloc ?_ _)); refine blk_put (cs := #[.string ((rd_T50 l1 x17_1).f0), .slice none 0 0, .slice none 0 0, .int .i64 0, .slice none 0 0]) ?_ 1 _ rfl; (with_reducible repeat (first | refine blk_drewN ?_ _ | refine blk_drew ?_ | refine blk_alloc ?_ _)); refine blk_put (cs := #[.string (⟨#[]⟩ : ByteArray), .slice none 0 0, .slice none 0 0, .int .i64 0, .slice none 0 0]) ?_ 0 _ rfl; (with_reducible repeat (first | refine blk_drewN ?_ _ | refine blk_drew ?_ | refine blk_alloc ?_ _)); exact BK330.out) hb); replace HB := Aside0.mk (below_step (bl HB) hb); clear hb)))
    ·go_roundg k1
     case measure => have := HK1.out; omega
     case rel => exact ⟨(wrap64 (x17_1 + 1)), rs, H', ⟨by have := HK1.out; omega⟩, ⟨bl HB⟩⟩
    ·go_ret
     exact ⟨re, bl HB⟩
 ·rw [if_neg c4] at H
  have c4b0 : ((l0.length : Int) == (l1.length : Int)) = false := beq_eq_false_iff_ne.mpr c4
  have c4b1 : ((l0.length : Int) != (l1.length : Int)) = true := bne_iff_ne.mpr c4
  have c4b2 : (l0.length == l1.length) = false := by first | simpa using c4 | (simp at c4 ⊢; omega)
  obtain rfl := Option.some.inj H
  go_enter Tryz.func70, Tryz.ntmps70
  go_wp2
  go_ret
  exact ⟨re, bl HB⟩
def code_Same.f (k : Nat) (l0 : List (S50)) (l1 : List (S50)) : Option (Bool) := (slices_EqualFunc_api_Routine_api_Routine_api_Routine_api_Routine_at_code_Same_1.f k l0 l1).bind fun t332 => (some t332)
set_option maxHeartbeats 8000000 in
set_option maxRecDepth 100000 in
theorem code_Same.calls (k : Nat) (A0 : Option Addr) (c0 : Nat) (l0 : List (S50)) (A1 : Option Addr) (c1 : Nat) (l1 : List (S50)) (r : Bool) (w : World) (hr0 : Kd.C k50 w A0 l0.length l0) (hc0 : l0.length ≤ c0) (hr1 : Kd.C k50 w A1 l1.length l1) (hc1 : l1.length ≤ c1) (h : code_Same.f k l0 l1 = some r) :
  Calls Tryz.prog 24 #[.slice A0 l0.length c0, .slice A1 l1.length c1] w fun e w' => e = .returned (.bool r) ∧ Below w.heap.size w w' := by
 have HR0 := Aside0.mk hr0
 have HC0 := Aside0.mk hc0
 clear hr0 hc0
 have HR1 := Aside0.mk hr1
 have HC1 := Aside0.mk hc1
 clear hr1 hc1
 have HB := Aside0.mk (Below.refl w.heap.size w)
 have H : ((slices_EqualFunc_api_Routine_api_Routine_api_Routine_api_Routine_at_code_Same_1.f k l0 l1).bind fun t332 => (some t332)) = some r := h
 clear h
 replace H := Option.bind_eq_some_iff.mp H
 obtain ⟨t332, A30, H⟩ := H
 (try dsimp only at H)
 have A3 := Aside0.mk A30
 clear A30
 obtain rfl := Option.some.inj H
 go_enter Tryz.func24, Tryz.ntmps24
 go_wp2_with (first | ((with_reducible refine gate_callee (f := 70) rfl ?_); refine gl 7 Tryz.func70 #[.slice A0 l0.length c0, .slice A1 l1.length c1, .func (.func 71) #[] #[]] ?_; (with_reducible refine (slices_EqualFunc_api_Routine_api_Routine_api_Routine_api_Routine_at_code_Same_1.calls k _ _ l0 _ _ l1  t332 _ ?side1 ?side2 ?side3 ?side4 A3.out).mono ?_); (case side1 => repeat (first | exact HR0.out | (with_reducible refine Kd.C_alloc ?_ _) | (with_reducible refine Kd.C_drewN ?_ _) | (with_reducible refine Kd.C_drew ?_))); (case side2 => exact HC0.out); (case side3 => repeat (first | exact HR1.out | (with_reducible refine Kd.C_alloc ?_ _) | (with_reducible refine Kd.C_drewN ?_ _) | (with_reducible refine Kd.C_drew ?_))); (case side4 => exact HC1.out); rintro e w4 ⟨rfl, hb⟩; refine ⟨_, rfl, ?_⟩; replace HB := Aside0.mk (below_step (bl HB) hb); clear hb))
 go_ret
 exact ⟨re, bl HB⟩
def fluxionlaw29_CodeSame.f (k : Nat) (l0 : List (S50)) (l1 : List (S50)) : Option (Bool) := (fluxionlaw29_cut.f k l0).bind fun t333 => ((fluxionlaw29_cut.f k l1).bind fun t336 => ((code_Same.f k t333 t336).bind fun t339 => ((fluxionlaw29_cut.f k l0).bind fun t340 => ((fluxionlaw29_cut.f k l1).bind fun t343 => ((fluxionref29_Same.f k t340 t343).bind fun t346 => (if (t339 == t346) = true then ((fluxionlaw29_cut.f k l0).bind fun t347 => ((fluxionlaw29_cut.f k l0).bind fun t350 => ((code_Same.f k t347 t350).bind fun t353 => (if t353 = true then ((fluxionlaw29_alive.f k).bind fun t354 => (some t354)) else (some false))))) else (some false)))))))
set_option maxHeartbeats 8000000 in
set_option maxRecDepth 100000 in
theorem fluxionlaw29_CodeSame.calls (k : Nat) (A0 : Option Addr) (c0 : Nat) (l0 : List (S50)) (A1 : Option Addr) (c1 : Nat) (l1 : List (S50)) (r : Bool) (w : World) (hG : GW w) (hr0 : Kd.C k50 w A0 l0.length l0) (hc0 : l0.length ≤ c0) (hr1 : Kd.C k50 w A1 l1.length l1) (hc1 : l1.length ≤ c1) (h : fluxionlaw29_CodeSame.f k l0 l1 = some r) :
  Calls Tryz.prog 7 #[.slice A0 l0.length c0, .slice A1 l1.length c1] w fun e w' => e = .returned (.bool r) ∧ Below w.heap.size w w' := by
 have HR0 := Aside0.mk hr0
 have HC0 := Aside0.mk hc0
 clear hr0 hc0
 have HR1 := Aside0.mk hr1
 have HC1 := Aside0.mk hc1
 clear hr1 hc1
 have HG := Aside0.mk hG
 clear hG
 have HB := Aside0.mk (Below.refl w.heap.size w)
 have H : ((fluxionlaw29_cut.f k l0).bind fun t333 => ((fluxionlaw29_cut.f k l1).bind fun t336 => ((code_Same.f k t333 t336).bind fun t339 => ((fluxionlaw29_cut.f k l0).bind fun t340 => ((fluxionlaw29_cut.f k l1).bind fun t343 => ((fluxionref29_Same.f k t340 t343).bind fun t346 => (if (t339 == t346) = true then ((fluxionlaw29_cut.f k l0).bind fun t347 => ((fluxionlaw29_cut.f k l0).bind fun t350 => ((code_Same.f k t347 t350).bind fun t353 => (if t353 = true then ((fluxionlaw29_alive.f k).bind fun t354 => (some t354)) else (some false))))) else (some false)))))))) = some r := h
 clear h
 replace H := Option.bind_eq_some_iff.mp H
 obtain ⟨t333, A30, H⟩ := H
 (try dsimp only at H)
 have A3 := Aside0.mk A30
 clear A30
 replace H := Option.bind_eq_some_iff.mp H
 obtain ⟨t336, A40, H⟩ := H
 (try dsimp only at H)
 have A4 := Aside0.mk A40
 clear A40
 replace H := Option.bind_eq_some_iff.mp H
 obtain ⟨t339, A50, H⟩ := H
 (try dsimp only at H)
 have A5 := Aside0.mk A50
 clear A50
 replace H := Option.bind_eq_some_iff.mp H
 obtain ⟨t340, A60, H⟩ := H
 (try dsimp only at H)
 have A6 := Aside0.mk A60
 clear A60
 replace H := Option.bind_eq_some_iff.mp H
 obtain ⟨t343, A70, H⟩ := H
 (try dsimp only at H)
 have A7 := Aside0.mk A70
 clear A70
 replace H := Option.bind_eq_some_iff.mp H
 obtain ⟨t346, A80, H⟩ := H
 (try dsimp only at H)
 have A8 := Aside0.mk A80
 clear A80
 by_cases c9 : (t339 == t346) = true
 focus
  rw [if_pos c9] at H
  have c9b0 : (t339 == t346) = true := c9
  (try (have c9b1 : decide (t339 = t346) = true := by simpa using c9))
  (try (have c9b2 : (t339 == t346) = true := by simpa using c9))
  clear c9
  replace H := Option.bind_eq_some_iff.mp H
  obtain ⟨t347, A100, H⟩ := H
  (try dsimp only at H)
  have A10 := Aside0.mk A100
  clear A100
  replace H := Option.bind_eq_some_iff.mp H
  obtain ⟨t350, A110, H⟩ := H
  (try dsimp only at H)
  have A11 := Aside0.mk A110
  clear A110
  replace H := Option.bind_eq_some_iff.mp H
  obtain ⟨t353, A120, H⟩ := H
  (try dsimp only at H)
  have A12 := Aside0.mk A120
  clear A120
  by_cases c13 : t353 = true
  focus
   subst c13
   have H1 : ((fluxionlaw29_alive.f k).bind fun t354 => (some t354)) = some r := by rw [if_pos rfl] at H; exact H
   clear H
   have H := H1
   clear H1
   replace H := Option.bind_eq_some_iff.mp H
   obtain ⟨t354, A140, H⟩ := H
   (try dsimp only at H)
   have A14 := Aside0.mk A140
   clear A140
   obtain rfl := Option.some.inj H
  rotate_left 1
  focus
   replace c13 := Bool.eq_false_iff.mpr c13
   subst c13
   have H1 : (some false) = some r := by rw [if_neg (show ¬ (false = true) by decide)] at H; exact H
   clear H
   have H := H1
   clear H1
   obtain rfl := Option.some.inj H
  rotate_left 1
 rotate_left 2
 focus
  rw [if_neg c9] at H
  have c9b0 : (t339 == t346) = false := by simpa using c9
  (try (have c9b1 : decide (t339 = t346) = false := by simpa using c9))
  (try (have c9b2 : (t339 == t346) = false := by simpa using c9))
  (try (have c9b3 : ¬ (t339 = t346) := by simpa using c9))
  clear c9
  obtain rfl := Option.some.inj H
 rotate_left 1
 all_goals (go_enter Tryz.func7, Tryz.ntmps7)
 all_goals (go_wp2_with (first | ((with_reducible refine gate_callee (f := 11) rfl ?_); refine gl 6 Tryz.func11 #[.slice A0 l0.length c0] ?_; (with_reducible refine (fluxionlaw29_cut.calls k _ _ l0 t333 _ ?side1 ?side2 A3.out).mono ?_); (case side1 => repeat (first | exact HR0.out | (with_reducible refine Kd.C_alloc ?_ _) | (with_reducible refine Kd.C_drewN ?_ _) | (with_reducible refine Kd.C_drew ?_))); (case side2 => exact HC0.out); rintro e wq1 ⟨v334, rfl, ho0, hb⟩; refine ⟨_, rfl, ?_⟩; have HO335 := Aside0.mk (Kd.R_lower ho0 (below_size (bl HB))); replace HB := Aside0.mk (below_step (bl HB) hb); clear hb ho0) | ((with_reducible refine gate_callee (f := 11) rfl ?_); refine gl 8 Tryz.func11 #[.slice A1 l1.length c1] ?_; (with_reducible refine (fluxionlaw29_cut.calls k _ _ l1 t336 _ ?side1 ?side2 A4.out).mono ?_); (case side1 => exact cb HR1 HB); (case side2 => exact HC1.out); rintro e wq2 ⟨v337, rfl, ho0, hb⟩; refine ⟨_, rfl, ?_⟩; have n0_ := Aside0.mk (Kd.R_elder' (by (with_reducible repeat (first | apply Kd.R_alloc | apply Kd.R_drewN | apply Kd.R_drew)); exact HO335.out) (Kd.R_base ho0) hb); have n1_ := Aside0.mk (Kd.R_lower (Kd.R_new' ho0 (Kd.R_lt (by (with_reducible repeat (first | apply Kd.R_alloc | apply Kd.R_drewN | apply Kd.R_drew)); exact HO335.out))) (below_size (bl HB))); have n2_ := Aside0.mk (below_step (bl HB) hb); clear HO335; clear HB; have HO335 := n0_; have HO338 := n1_; have HB := n2_; clear n0_ n1_ n2_; clear hb ho0; obtain ⟨Aoq1, coq1, eoq1⟩ := Kd.R_slice HO335.out; subst eoq1; obtain ⟨Aoq2, coq2, eoq2⟩ := Kd.R_slice HO338.out; subst eoq2) | ((with_reducible refine gate_callee (f := 24) rfl ?_); refine gl 9 Tryz.func24 #[.slice Aoq1 t333.length coq1, .slice Aoq2 t336.length coq2] ?_; (with_reducible refine (code_Same.calls k _ _ t333 _ _ t336 t339 _ ?side1 ?side2 ?side3 ?side4 A5.out).mono ?_); (case side1 => repeat (first | exact (Kd.R_reads' HO335.out).2.2 | (with_reducible refine Kd.C_alloc ?_ _) | (with_reducible refine Kd.C_drewN ?_ _) | (with_reducible refine Kd.C_drew ?_))); (case side2 => exact (Kd.R_reads' HO335.out).2.1); (case side3 => repeat (first | exact (Kd.R_reads' HO338.out).2.2 | (with_reducible refine Kd.C_alloc ?_ _) | (with_reducible refine Kd.C_drewN ?_ _) | (with_reducible refine Kd.C_drew ?_))); (case side4 => exact (Kd.R_reads' HO338.out).2.1); rintro e wq3 ⟨rfl, hb⟩; refine ⟨_, rfl, ?_⟩; replace HO335 := Aside0.mk (Kd.R_below (by (with_reducible repeat (first | apply Kd.R_alloc | apply Kd.R_drewN | apply Kd.R_drew)); exact HO335.out) hb); replace HO338 := Aside0.mk (Kd.R_below (by (with_reducible repeat (first | apply Kd.R_alloc | apply Kd.R_drewN | apply Kd.R_drew)); exact HO338.out) hb); replace HB := Aside0.mk (below_step (bl HB) hb); clear hb) | ((with_reducible refine gate_callee (f := 11) rfl ?_); refine gl 11 Tryz.func11 #[.slice A0 l0.length c0] ?_; (with_reducible refine (fluxionlaw29_cut.calls k _ _ l0 t340 _ ?side1 ?side2 A6.out).mono ?_); (case side1 => exact cb HR0 HB); (case side2 => exact HC0.out); rintro e wq4 ⟨v341, rfl, ho0, hb⟩; refine ⟨_, rfl, ?_⟩; have n0_ := Aside0.mk (Kd.R_elder' (by (with_reducible repeat (first | apply Kd.R_alloc | apply Kd.R_drewN | apply Kd.R_drew)); exact HO335.out) (Kd.R_base ho0) hb); have n1_ := Aside0.mk (Kd.R_elder' (by (with_reducible repeat (first | apply Kd.R_alloc | apply Kd.R_drewN | apply Kd.R_drew)); exact HO338.out) (Kd.R_base ho0) hb); have n2_ := Aside0.mk (Kd.R_lower (Kd.R_new' (Kd.R_new' ho0 (Kd.R_lt (by (with_reducible repeat (first | apply Kd.R_alloc | apply Kd.R_drewN | apply Kd.R_drew)); exact HO335.out))) (Kd.R_lt (by (with_reducible repeat (first | apply Kd.R_alloc | apply Kd.R_drewN | apply Kd.R_drew)); exact HO338.out))) (below_size (bl HB))); have n3_ := Aside0.mk (below_step (bl HB) hb); clear HO335; clear HO338; clear HB; have HO335 := n0_; have HO338 := n1_; have HO342 := n2_; have HB := n3_; clear n0_ n1_ n2_ n3_; clear hb ho0) | ((with_reducible refine gate_callee (f := 11) rfl ?_); refine gl 13 Tryz.func11 #[.slice A1 l1.length c1] ?_; (with_reducible refine (fluxionlaw29_cut.calls k _ _ l1 t343 _ ?side1 ?side2 A7.out).mono ?_); (case side1 => exact cb HR1 HB); (case side2 => exact HC1.out); rintro e wq5 ⟨v344, rfl, ho0, hb⟩; refine ⟨_, rfl, ?_⟩; have n0_ := Aside0.mk (Kd.R_elder' (by (with_reducible repeat (first | apply Kd.R_alloc | apply Kd.R_drewN | apply Kd.R_drew)); exact HO335.out) (Kd.R_base ho0) hb); have n1_ := Aside0.mk (Kd.R_elder' (by (with_reducible repeat (first | apply Kd.R_alloc | apply Kd.R_drewN | apply Kd.R_drew)); exact HO338.out) (Kd.R_base ho0) hb); have n2_ := Aside0.mk (Kd.R_elder' (by (with_reducible repeat (first | apply Kd.R_alloc | apply Kd.R_drewN | apply Kd.R_drew)); exact HO342.out) (Kd.R_base ho0) hb); have n3_ := Aside0.mk (Kd.R_lower (Kd.R_new' (Kd.R_new' (Kd.R_new' ho0 (Kd.R_lt (by (with_reducible repeat (first | apply Kd.R_alloc | apply Kd.R_drewN | apply Kd.R_drew)); exact HO335.out))) (Kd.R_lt (by (with_reducible repeat (first | apply Kd.R_alloc | apply Kd.R_drewN | apply Kd.R_drew)); exact HO338.out))) (Kd.R_lt (by (with_reducible repeat (first | apply Kd.R_alloc | apply Kd.R_drewN | apply Kd.R_drew)); exact HO342.out))) (below_size (bl HB))); have n4_ := Aside0.mk (below_step (bl HB) hb); clear HO335; clear HO338; clear HO342; clear HB; have HO335 := n0_; have HO338 := n1_; have HO342 := n2_; have HO345 := n3_; have HB := n4_; clear n0_ n1_ n2_ n3_ n4_; clear hb ho0; obtain ⟨Aoq3, coq3, eoq3⟩ := Kd.R_slice HO342.out; subst eoq3; obtain ⟨Aoq4, coq4, eoq4⟩ := Kd.R_slice HO345.out; subst eoq4) | ((with_reducible refine gate_callee (f := 15) rfl ?_); refine gl 14 Tryz.func15 #[.slice Aoq3 t340.length coq3, .slice Aoq4 t343.length coq4] ?_; (with_reducible refine (fluxionref29_Same.calls k _ _ t340 _ _ t343 t346 _ ?side1 ?side2 ?side3 ?side4 A8.out).mono ?_); (case side1 => repeat (first | exact (Kd.R_reads' HO342.out).2.2 | (with_reducible refine Kd.C_alloc ?_ _) | (with_reducible refine Kd.C_drewN ?_ _) | (with_reducible refine Kd.C_drew ?_))); (case side2 => exact (Kd.R_reads' HO342.out).2.1); (case side3 => repeat (first | exact (Kd.R_reads' HO345.out).2.2 | (with_reducible refine Kd.C_alloc ?_ _) | (with_reducible refine Kd.C_drewN ?_ _) | (with_reducible refine Kd.C_drew ?_))); (case side4 => exact (Kd.R_reads' HO345.out).2.1); rintro e wq6 ⟨rfl, hb⟩; refine ⟨_, rfl, ?_⟩; replace HO335 := Aside0.mk (Kd.R_below (by (with_reducible repeat (first | apply Kd.R_alloc | apply Kd.R_drewN | apply Kd.R_drew)); exact HO335.out) hb); replace HO338 := Aside0.mk (Kd.R_below (by (with_reducible repeat (first | apply Kd.R_alloc | apply Kd.R_drewN | apply Kd.R_drew)); exact HO338.out) hb); replace HO342 := Aside0.mk (Kd.R_below (by (with_reducible repeat (first | apply Kd.R_alloc | apply Kd.R_drewN | apply Kd.R_drew)); exact HO342.out) hb); replace HO345 := Aside0.mk (Kd.R_below (by (with_reducible repeat (first | apply Kd.R_alloc | apply Kd.R_drewN | apply Kd.R_drew)); exact HO345.out) hb); replace HB := Aside0.mk (below_step (bl HB) hb); clear hb) | (go_at_call 11; (with_reducible refine (fluxionlaw29_cut.calls k _ _ l0 t347 _ ?side1 ?side2 A10.out).mono ?_); (case side1 => exact cb HR0 HB); (case side2 => exact HC0.out); rintro e wq7 ⟨v348, rfl, ho0, hb⟩; clear A10; have n0_ := Aside0.mk (Kd.R_elder' (by (with_reducible repeat (first | apply Kd.R_alloc | apply Kd.R_drewN | apply Kd.R_drew)); exact HO335.out) (Kd.R_base ho0) hb); have n1_ := Aside0.mk (Kd.R_elder' (by (with_reducible repeat (first | apply Kd.R_alloc | apply Kd.R_drewN | apply Kd.R_drew)); exact HO338.out) (Kd.R_base ho0) hb); have n2_ := Aside0.mk (Kd.R_elder' (by (with_reducible repeat (first | apply Kd.R_alloc | apply Kd.R_drewN | apply Kd.R_drew)); exact HO342.out) (Kd.R_base ho0) hb); have n3_ := Aside0.mk (Kd.R_elder' (by (with_reducible repeat (first | apply Kd.R_alloc | apply Kd.R_drewN | apply Kd.R_drew)); exact HO345.out) (Kd.R_base ho0) hb); have n4_ := Aside0.mk (Kd.R_lower (Kd.R_new' (Kd.R_new' (Kd.R_new' (Kd.R_new' ho0 (Kd.R_lt (by (with_reducible repeat (first | apply Kd.R_alloc | apply Kd.R_drewN | apply Kd.R_drew)); exact HO335.out))) (Kd.R_lt (by (with_reducible repeat (first | apply Kd.R_alloc | apply Kd.R_drewN | apply Kd.R_drew)); exact HO338.out))) (Kd.R_lt (by (with_reducible repeat (first | apply Kd.R_alloc | apply Kd.R_drewN | apply Kd.R_drew)); exact HO342.out))) (Kd.R_lt (by (with_reducible repeat (first | apply Kd.R_alloc | apply Kd.R_drewN | apply Kd.R_drew)); exact HO345.out))) (below_size (bl HB))); have n5_ := Aside0.mk (below_step (bl HB) hb); clear HO335; clear HO338; clear HO342; clear HO345; clear HB; have HO335 := n0_; have HO338 := n1_; have HO342 := n2_; have HO345 := n3_; have HO349 := n4_; have HB := n5_; clear n0_ n1_ n2_ n3_ n4_ n5_; clear hb ho0) | (go_at_call 11; (with_reducible refine (fluxionlaw29_cut.calls k _ _ l0 t350 _ ?side1 ?side2 A11.out).mono ?_); (case side1 => exact cb HR0 HB); (case side2 => exact HC0.out); rintro e wq8 ⟨v351, rfl, ho0, hb⟩; clear A11; have n0_ := Aside0.mk (Kd.R_elder' (by (with_reducible repeat (first | apply Kd.R_alloc | apply Kd.R_drewN | apply Kd.R_drew)); exact HO335.out) (Kd.R_base ho0) hb); have n1_ := Aside0.mk (Kd.R_elder' (by (with_reducible repeat (first | apply Kd.R_alloc | apply Kd.R_drewN | apply Kd.R_drew)); exact HO338.out) (Kd.R_base ho0) hb); have n2_ := Aside0.mk (Kd.R_elder' (by (with_reducible repeat (first | apply Kd.R_alloc | apply Kd.R_drewN | apply Kd.R_drew)); exact HO342.out) (Kd.R_base ho0) hb); have n3_ := Aside0.mk (Kd.R_elder' (by (with_reducible repeat (first | apply Kd.R_alloc | apply Kd.R_drewN | apply Kd.R_drew)); exact HO345.out) (Kd.R_base ho0) hb); have n4_ := Aside0.mk (Kd.R_elder' (by (with_reducible repeat (first | apply Kd.R_alloc | apply Kd.R_drewN | apply Kd.R_drew)); exact HO349.out) (Kd.R_base ho0) hb); have n5_ := Aside0.mk (Kd.R_lower (Kd.R_new' (Kd.R_new' (Kd.R_new' (Kd.R_new' (Kd.R_new' ho0 (Kd.R_lt (by (with_reducible repeat (first | apply Kd.R_alloc | apply Kd.R_drewN | apply Kd.R_drew)); exact HO335.out))) (Kd.R_lt (by (with_reducible repeat (first | apply Kd.R_alloc | apply Kd.R_drewN | apply Kd.R_drew)); exact HO338.out))) (Kd.R_lt (by (with_reducible repeat (first | apply Kd.R_alloc | apply Kd.R_drewN | apply Kd.R_drew)); exact HO342.out))) (Kd.R_lt (by (with_reducible repeat (first | apply Kd.R_alloc | apply Kd.R_drewN | apply Kd.R_drew)); exact HO345.out))) (Kd.R_lt (by (with_reducible repeat (first | apply Kd.R_alloc | apply Kd.R_drewN | apply Kd.R_drew)); exact HO349.out))) (below_size (bl HB))); have n6_ := Aside0.mk (below_step (bl HB) hb); clear HO335; clear HO338; clear HO342; clear HO345; clear HO349; clear HB; have HO335 := n0_; have HO338 := n1_; have HO342 := n2_; have HO345 := n3_; have HO349 := n4_; have HO352 := n5_; have HB := n6_; clear n0_ n1_ n2_ n3_ n4_ n5_ n6_; clear hb ho0; obtain ⟨Aoq5, coq5, eoq5⟩ := Kd.R_slice HO349.out; subst eoq5; obtain ⟨Aoq6, coq6, eoq6⟩ := Kd.R_slice HO352.out; subst eoq6) | (go_at_call 24; (with_reducible refine (code_Same.calls k _ _ t347 _ _ t350 true _ ?side1 ?side2 ?side3 ?side4 A12.out).mono ?_); (case side1 => repeat (first | exact (Kd.R_reads' HO349.out).2.2 | (with_reducible refine Kd.C_alloc ?_ _) | (with_reducible refine Kd.C_drewN ?_ _) | (with_reducible refine Kd.C_drew ?_))); (case side2 => exact (Kd.R_reads' HO349.out).2.1); (case side3 => repeat (first | exact (Kd.R_reads' HO352.out).2.2 | (with_reducible refine Kd.C_alloc ?_ _) | (with_reducible refine Kd.C_drewN ?_ _) | (with_reducible refine Kd.C_drew ?_))); (case side4 => exact (Kd.R_reads' HO352.out).2.1); rintro e wq9 ⟨rfl, hb⟩; replace HO335 := Aside0.mk (Kd.R_below (by (with_reducible repeat (first | apply Kd.R_alloc | apply Kd.R_drewN | apply Kd.R_drew)); exact HO335.out) hb); replace HO338 := Aside0.mk (Kd.R_below (by (with_reducible repeat (first | apply Kd.R_alloc | apply Kd.R_drewN | apply Kd.R_drew)); exact HO338.out) hb); replace HO342 := Aside0.mk (Kd.R_below (by (with_reducible repeat (first | apply Kd.R_alloc | apply Kd.R_drewN | apply Kd.R_drew)); exact HO342.out) hb); replace HO345 := Aside0.mk (Kd.R_below (by (with_reducible repeat (first | apply Kd.R_alloc | apply Kd.R_drewN | apply Kd.R_drew)); exact HO345.out) hb); replace HO349 := Aside0.mk (Kd.R_below (by (with_reducible repeat (first | apply Kd.R_alloc | apply Kd.R_drewN | apply Kd.R_drew)); exact HO349.out) hb); replace HO352 := Aside0.mk (Kd.R_below (by (with_reducible repeat (first | apply Kd.R_alloc | apply Kd.R_drewN | apply Kd.R_drew)); exact HO352.out) hb); replace HB := Aside0.mk (below_step (bl HB) hb); clear hb) | (go_at_call 16; (with_reducible refine (fluxionlaw29_alive.calls k  t354 _ ?side1 A14.out).mono ?_); (case side1 => exact GW.below HG.out (bl HB)); rintro e wq10 ⟨rfl, hb⟩; replace HO335 := Aside0.mk (Kd.R_below (by (with_reducible repeat (first | apply Kd.R_alloc | apply Kd.R_drewN | apply Kd.R_drew)); exact HO335.out) hb); replace HO338 := Aside0.mk (Kd.R_below (by (with_reducible repeat (first | apply Kd.R_alloc | apply Kd.R_drewN | apply Kd.R_drew)); exact HO338.out) hb); replace HO342 := Aside0.mk (Kd.R_below (by (with_reducible repeat (first | apply Kd.R_alloc | apply Kd.R_drewN | apply Kd.R_drew)); exact HO342.out) hb); replace HO345 := Aside0.mk (Kd.R_below (by (with_reducible repeat (first | apply Kd.R_alloc | apply Kd.R_drewN | apply Kd.R_drew)); exact HO345.out) hb); replace HO349 := Aside0.mk (Kd.R_below (by (with_reducible repeat (first | apply Kd.R_alloc | apply Kd.R_drewN | apply Kd.R_drew)); exact HO349.out) hb); replace HO352 := Aside0.mk (Kd.R_below (by (with_reducible repeat (first | apply Kd.R_alloc | apply Kd.R_drewN | apply Kd.R_drew)); exact HO352.out) hb); replace HB := Aside0.mk (below_step (bl HB) hb); clear hb) | (go_at_call 24; (with_reducible refine (code_Same.calls k _ _ t347 _ _ t350 false _ ?side1 ?side2 ?side3 ?side4 A12.out).mono ?_); (case side1 => repeat (first | exact (Kd.R_reads' HO349.out).2.2 | (with_reducible refine Kd.C_alloc ?_ _) | (with_reducible refine Kd.C_drewN ?_ _) | (with_reducible refine Kd.C_drew ?_))); (case side2 => exact (Kd.R_reads' HO349.out).2.1); (case side3 => repeat (first | exact (Kd.R_reads' HO352.out).2.2 | (with_reducible refine Kd.C_alloc ?_ _) | (with_reducible refine Kd.C_drewN ?_ _) | (with_reducible refine Kd.C_drew ?_))); (case side4 => exact (Kd.R_reads' HO352.out).2.1); rintro e wq9 ⟨rfl, hb⟩; replace HO335 := Aside0.mk (Kd.R_below (by (with_reducible repeat (first | apply Kd.R_alloc | apply Kd.R_drewN | apply Kd.R_drew)); exact HO335.out) hb); replace HO338 := Aside0.mk (Kd.R_below (by (with_reducible repeat (first | apply Kd.R_alloc | apply Kd.R_drewN | apply Kd.R_drew)); exact HO338.out) hb); replace HO342 := Aside0.mk (Kd.R_below (by (with_reducible repeat (first | apply Kd.R_alloc | apply Kd.R_drewN | apply Kd.R_drew)); exact HO342.out) hb); replace HO345 := Aside0.mk (Kd.R_below (by (with_reducible repeat (first | apply Kd.R_alloc | apply Kd.R_drewN | apply Kd.R_drew)); exact HO345.out) hb); replace HO349 := Aside0.mk (Kd.R_below (by (with_reducible repeat (first | apply Kd.R_alloc | apply Kd.R_drewN | apply Kd.R_drew)); exact HO349.out) hb); replace HO352 := Aside0.mk (Kd.R_below (by (with_reducible repeat (first | apply Kd.R_alloc | apply Kd.R_drewN | apply Kd.R_drew)); exact HO352.out) hb); replace HB := Aside0.mk (below_step (bl HB) hb); clear hb)))
 ·go_ret
  exact ⟨re, bl HB⟩
 ·go_ret
  exact ⟨re, bl HB⟩
 ·go_ret
  exact ⟨re, bl HB⟩
end Go.Proofs.YtbkknoipgmlcmaaGreatDoor.P

