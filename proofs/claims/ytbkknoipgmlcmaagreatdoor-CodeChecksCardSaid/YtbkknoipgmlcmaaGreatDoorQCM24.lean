import Derived.Test.YtbkknoipgmlcmaaGreatDoorQCM19
set_option linter.unusedVariables false
set_option linter.unusedSimpArgs false
set_option maxHeartbeats 8000000
set_option maxRecDepth 100000
namespace Go.Proofs.YtbkknoipgmlcmaaGreatDoor.P
open Go.RowKit Go.Proofs.YtbkknoipgmlcmaaGreatDoorW.PrintWords Go.Proofs.YtbkknoipgmlcmaaGreatDoorW.PrintLast Go.Proofs.YtbkknoipgmlcmaaGreatDoorW.PrintMore
open Go.Proofs.FX
attribute [local go_sem] cell_twice le_add_cast
attribute [local go_sem] max2_int min2_int max_two min_two max_three min_three max_four min_four
def fluxionref02_IsRat.f (k : Nat) (a0_0 : Int) (a0_1 : Bool) (l0_2 : List Int) (l0_3 : List Int) : Option (Bool) := if a0_0 = 0 then ((fluxionref02_good.f l0_2).bind fun t322 => (if t322 = true then ((fluxionref02_good.f l0_3).bind fun t323 => (if t323 = true then (if (l0_3.length : Int) = 0 then (some false) else (if a0_1 = true then (if (l0_2.length : Int) = 0 then (some false) else ((fluxionref01_Gcd.f k l0_2 l0_3).bind fun t324 => (if (t324.length : Int) = 1 then (if 0 < (t324.length : Int) then (some ((rd t324 0) == 1)) else (none)) else (some false)))) else ((fluxionref01_Gcd.f k l0_2 l0_3).bind fun t328 => (if (t328.length : Int) = 1 then (if 0 < (t328.length : Int) then (some ((rd t328 0) == 1)) else (none)) else (some false))))) else (some false))) else (some false))) else (if a0_0 = 4 then (if a0_1 = true then (some false) else (if (l0_2.length : Int) = 0 then (some ((l0_3.length : Int) == 0)) else (some false))) else (if a0_0 = 11 then (if a0_1 = true then (some false) else (if (l0_2.length : Int) = 0 then (some ((l0_3.length : Int) == 0)) else (some false))) else (some false)))
theorem fluxionref02_IsRat.calls (k : Nat) (a0_0 : Int) (a0_1 : Bool) (A0_2 : Option Addr) (c0_2 : Nat) (l0_2 : List Int) (A0_3 : Option Addr) (c0_3 : Nat) (l0_3 : List Int) (r : Bool) (w : World) (hr0_2 : Kd.C (Kd.int .u32) w A0_2 l0_2.length l0_2) (hc0_2 : l0_2.length ≤ c0_2) (hr0_3 : Kd.C (Kd.int .u32) w A0_3 l0_3.length l0_3) (hc0_3 : l0_3.length ≤ c0_3) (h : fluxionref02_IsRat.f k a0_0 a0_1 l0_2 l0_3 = some r) :
 Calls Tryz.prog 98 #[.agg #[.int .i64 a0_0, .bool a0_1, .slice A0_2 l0_2.length c0_2, .slice A0_3 l0_3.length c0_3]] w fun e w' => e = .returned (.bool r) ∧ Below w.heap.size w w' := by
 have hu61 := Tryz.underlying61
 have HR0_2 := aS hr0_2
 have HC0_2 := aS hc0_2
 clear hr0_2 hc0_2
 have HR0_3 := aS hr0_3
 have HC0_3 := aS hc0_3
 clear hr0_3 hc0_3
 have HB := aS (Below.refl w.heap.size w)
 have H := h
 unfold fluxionref02_IsRat.f at H
 clear h
 by_cases c2 : a0_0 = 0
 focus
  rw [if_pos c2] at H
  have c2b0 := bT c2
  have c2b1 := nF c2
  clear c2
  replace H := bS H
  obtain ⟨t322, A30, H⟩ := H
  (try dsimp only at H)
  have A3 := aS A30
  clear A30
  by_cases c4 : t322 = true
  focus
   subst c4
   rw [if_pos rfl] at H
   replace H := bS H
   obtain ⟨t323, A50, H⟩ := H
   (try dsimp only at H)
   have A5 := aS A50
   clear A50
   by_cases c6 : t323 = true
   focus
    subst c6
    rw [if_pos rfl] at H
    by_cases c7 : (l0_3.length : Int) = 0
    focus
     rw [if_pos c7] at H
     have c7b0 := bT c7
     have c7b1 := nF c7
     clear c7
     obtain rfl := sI H
    rotate_left 1
    focus
     rw [if_neg c7] at H
     have c7b0 := bF c7
     have c7b1 := nT c7
     have c7b2 : ¬ (l0_3 = []) := fun h_ => c7 (by rw [h_]; rfl)
     by_cases c10 : a0_1 = true
     focus
      subst c10
      rw [if_pos rfl] at H
      by_cases c11 : (l0_2.length : Int) = 0
      focus
       rw [if_pos c11] at H
       have c11b0 := bT c11
       have c11b1 := nF c11
       clear c11
       obtain rfl := sI H
      rotate_left 1
      focus
       rw [if_neg c11] at H
       have c11b0 := bF c11
       have c11b1 := nT c11
       have c11b2 : ¬ (l0_2 = []) := fun h_ => c11 (by rw [h_]; rfl)
       replace H := bS H
       obtain ⟨t324, A140, H⟩ := H
       (try dsimp only at H)
       have A14 := aS A140
       clear A140
       by_cases c15 : (t324.length : Int) = 1
       focus
        rw [if_pos c15] at H
        have c15b0 := bT c15
        have c15b1 := nF c15
        clear c15
        by_cases c16 : 0 < (t324.length : Int)
        focus
         rw [if_pos c16] at H
         have c16b0 := dT c16
         have c16b1 : decide (0 < t324.length) = true := dT (by omega)
         clear c16
         obtain rfl := sI H
        rotate_left 1
        focus
         rw [if_neg c16] at H
         cases H
       rotate_left 1
       focus
        rw [if_neg c15] at H
        have c15b0 := bF c15
        have c15b1 := nT c15
        obtain rfl := sI H
       rotate_left 1
      rotate_left 2
     rotate_left 3
     focus
      replace c10 := Bool.eq_false_iff.mpr c10
      subst c10
      rw [if_neg iN] at H
      replace H := bS H
      obtain ⟨t328, A250, H⟩ := H
      (try dsimp only at H)
      have A25 := aS A250
      clear A250
      by_cases c26 : (t328.length : Int) = 1
      focus
       rw [if_pos c26] at H
       have c26b0 := bT c26
       have c26b1 := nF c26
       clear c26
       by_cases c27 : 0 < (t328.length : Int)
       focus
        rw [if_pos c27] at H
        have c27b0 := dT c27
        have c27b1 : decide (0 < t328.length) = true := dT (by omega)
        clear c27
        obtain rfl := sI H
       rotate_left 1
       focus
        rw [if_neg c27] at H
        cases H
      rotate_left 1
      focus
       rw [if_neg c26] at H
       have c26b0 := bF c26
       have c26b1 := nT c26
       obtain rfl := sI H
      rotate_left 1
     rotate_left 2
    rotate_left 5
   rotate_left 6
   focus
    replace c6 := Bool.eq_false_iff.mpr c6
    subst c6
    rw [if_neg iN] at H
    obtain rfl := sI H
   rotate_left 1
  rotate_left 7
  focus
   replace c4 := Bool.eq_false_iff.mpr c4
   subst c4
   rw [if_neg iN] at H
   obtain rfl := sI H
  rotate_left 1
 rotate_left 8
 focus
  rw [if_neg c2] at H
  have c2b0 := bF c2
  have c2b1 := nT c2
  by_cases c40 : a0_0 = 4
  focus
   rw [if_pos c40] at H
   have c40b0 := bT c40
   have c40b1 := nF c40
   clear c40
   by_cases c41 : a0_1 = true
   focus
    subst c41
    rw [if_pos rfl] at H
    obtain rfl := sI H
   rotate_left 1
   focus
    replace c41 := Bool.eq_false_iff.mpr c41
    subst c41
    rw [if_neg iN] at H
    by_cases c44 : (l0_2.length : Int) = 0
    focus
     rw [if_pos c44] at H
     have c44b0 := bT c44
     have c44b1 := nF c44
     clear c44
     obtain rfl := sI H
    rotate_left 1
    focus
     rw [if_neg c44] at H
     have c44b0 := bF c44
     have c44b1 := nT c44
     have c44b2 : ¬ (l0_2 = []) := fun h_ => c44 (by rw [h_]; rfl)
     obtain rfl := sI H
    rotate_left 1
   rotate_left 2
  rotate_left 3
  focus
   rw [if_neg c40] at H
   have c40b0 := bF c40
   have c40b1 := nT c40
   by_cases c49 : a0_0 = 11
   focus
    rw [if_pos c49] at H
    have c49b0 := bT c49
    have c49b1 := nF c49
    clear c49
    by_cases c50 : a0_1 = true
    focus
     subst c50
     rw [if_pos rfl] at H
     obtain rfl := sI H
    rotate_left 1
    focus
     replace c50 := Bool.eq_false_iff.mpr c50
     subst c50
     rw [if_neg iN] at H
     by_cases c53 : (l0_2.length : Int) = 0
     focus
      rw [if_pos c53] at H
      have c53b0 := bT c53
      have c53b1 := nF c53
      clear c53
      obtain rfl := sI H
     rotate_left 1
     focus
      rw [if_neg c53] at H
      have c53b0 := bF c53
      have c53b1 := nT c53
      have c53b2 : ¬ (l0_2 = []) := fun h_ => c53 (by rw [h_]; rfl)
      obtain rfl := sI H
     rotate_left 1
    rotate_left 2
   rotate_left 3
   focus
    rw [if_neg c49] at H
    have c49b0 := bF c49
    have c49b1 := nT c49
    obtain rfl := sI H
   rotate_left 1
  rotate_left 4
 rotate_left 7
 all_goals (go_enter Tryz.func98, Tryz.ntmps98)
 all_goals (go_wp2_with (first | ((with_reducible refine gate_dst (N := 1) rfl ?_); (try (refine gate_guard (by rfl) ?_; dsimp only)); refine bx (N := 1) (cs := #[.int .i64 a0_0, .bool true, .slice A0_2 l0_2.length c0_2, .slice A0_3 l0_3.length c0_3]) (t := 61) ?_; intro gb321 hg wq1 hbox hb; have BK321 := aS (hbox); have GW321 := (gz hg HB : Aside0 (w.heap.size ≤ gb321)); have GE321 := (gz hg HB : Aside0 (w.heap.size ≤ gb321)); replace HB := aS (bs_ (bl HB) hb); clear hb hbox hg; obtain ⟨_, _, _, _, _, _, _, _⟩ := cf4 BK321.out) | ((with_reducible refine gate_callee (f := 143) rfl ?_); refine gl 34 Tryz.func143 #[.slice A0_2 l0_2.length c0_2] ?_; (with_reducible refine (fluxionref02_good.calls _ _ l0_2 true _ ?side1 ?side2 A3.out).mono ?_); (case side1 => exact cb HR0_2 HB); (case side2 => exact HC0_2.out); rintro e w' ⟨rfl, ⟨nd, rfl⟩⟩; refine ⟨_, rfl, ?_⟩) | (go_at_call 143; (with_reducible refine (fluxionref02_good.calls _ _ l0_3 true _ ?side1 ?side2 A5.out).mono ?_); (case side1 => repeat (first | exact (Kd.C_below HR0_3.out (bl HB)) | (with_reducible refine Kd.C_alloc ?_ _) | (with_reducible refine Kd.C_drewN ?_ _) | (with_reducible refine Kd.C_drew ?_))); (case side2 => exact HC0_3.out); rintro e w' ⟨rfl, ⟨nd, rfl⟩⟩) | ((with_reducible refine gate_callee (f := 144) rfl ?_); refine gl 62 Tryz.func144 #[.slice A0_2 l0_2.length c0_2, .slice A0_3 l0_3.length c0_3] ?_; (with_reducible refine (fluxionref01_Gcd.calls k (fun k_ => k_ < w.heap.size) _ _ l0_2 (fun k_ => k_ < w.heap.size) _ _ l0_3 t324 _ ?side1 ?side2 A14.out).mono ?_); (case side1 => exact Kd.V_mk HC0_2.out (Kd.F_below (Kd.C_F (Kd.heap_int .u32) HR0_2.out) (bl HB))); (case side2 => exact Kd.V_mk HC0_3.out (Kd.F_below (Kd.C_F (Kd.heap_int .u32) HR0_3.out) (bl HB))); rintro e wq2 ⟨v325, rfl, ho0, hb⟩; refine ⟨_, rfl, ?_⟩; have HO326 := aS (Kd.R_lower (Kd.R_mono (ok' := fun k_ => True) ho0 (fun _ hk_ => trivial)) (below_size (bl HB))); replace BK321 := aS (blk_below (bj BK321) hb); replace HB := aS (bs_ (bl HB) hb); clear hb ho0; obtain ⟨Aoq1, coq1, eoq1⟩ := Kd.R_slice HO326.out; subst eoq1; have p327 : 0 ≤ (0 : Int) := (by omega); have q327 : 0 < (t324.length : Int) := oa; obtain ⟨ad327, e327, hx327_0⟩ := Kd.at_int (Kd.R_reads' HO326.out).2.2 0 p327 q327; cases e327; have qi327 : (0 < t324.length) = True := eq_true (by omega); (try rw [show ((0 : Int)).toNat = 0 from rfl] at hx327_0); (try rw [Addr.add_zero'] at hx327_0); replace p327 := eq_true p327; replace q327 := eq_true q327) | ((with_reducible refine gate_callee (f := 144) rfl ?_); refine gl 62 Tryz.func144 #[.slice A0_2 l0_2.length c0_2, .slice A0_3 l0_3.length c0_3] ?_; (with_reducible refine (fluxionref01_Gcd.calls k (fun k_ => k_ < w.heap.size) _ _ l0_2 (fun k_ => k_ < w.heap.size) _ _ l0_3 t324 _ ?side1 ?side2 A14.out).mono ?_); (case side1 => exact Kd.V_mk HC0_2.out (Kd.F_below (Kd.C_F (Kd.heap_int .u32) HR0_2.out) (bl HB))); (case side2 => exact Kd.V_mk HC0_3.out (Kd.F_below (Kd.C_F (Kd.heap_int .u32) HR0_3.out) (bl HB))); rintro e wq2 ⟨v325, rfl, ho0, hb⟩; refine ⟨_, rfl, ?_⟩; have HO326 := aS (Kd.R_lower (Kd.R_mono (ok' := fun k_ => True) ho0 (fun _ hk_ => trivial)) (below_size (bl HB))); replace BK321 := aS (blk_below (bj BK321) hb); replace HB := aS (bs_ (bl HB) hb); clear hb ho0; obtain ⟨Aoq1, coq1, eoq1⟩ := Kd.R_slice HO326.out; subst eoq1) | ((with_reducible refine gate_dst (N := 1) rfl ?_); (try (refine gate_guard (by rfl) ?_; dsimp only)); refine bx (N := 1) (cs := #[.int .i64 a0_0, .bool false, .slice A0_2 l0_2.length c0_2, .slice A0_3 l0_3.length c0_3]) (t := 61) ?_; intro gb321 hg wq1 hbox hb; have BK321 := aS (hbox); have GW321 := (gz hg HB : Aside0 (w.heap.size ≤ gb321)); have GE321 := (gz hg HB : Aside0 (w.heap.size ≤ gb321)); replace HB := aS (bs_ (bl HB) hb); clear hb hbox hg; obtain ⟨_, _, _, _, _, _, _, _⟩ := cf4 BK321.out) | ((with_reducible refine gate_callee (f := 144) rfl ?_); refine gl 62 Tryz.func144 #[.slice A0_2 l0_2.length c0_2, .slice A0_3 l0_3.length c0_3] ?_; (with_reducible refine (fluxionref01_Gcd.calls k (fun k_ => k_ < w.heap.size) _ _ l0_2 (fun k_ => k_ < w.heap.size) _ _ l0_3 t328 _ ?side1 ?side2 A25.out).mono ?_); (case side1 => exact Kd.V_mk HC0_2.out (Kd.F_below (Kd.C_F (Kd.heap_int .u32) HR0_2.out) (bl HB))); (case side2 => exact Kd.V_mk HC0_3.out (Kd.F_below (Kd.C_F (Kd.heap_int .u32) HR0_3.out) (bl HB))); rintro e wq2 ⟨v329, rfl, ho0, hb⟩; refine ⟨_, rfl, ?_⟩; have HO330 := aS (Kd.R_lower (Kd.R_mono (ok' := fun k_ => True) ho0 (fun _ hk_ => trivial)) (below_size (bl HB))); replace BK321 := aS (blk_below (bj BK321) hb); replace HB := aS (bs_ (bl HB) hb); clear hb ho0; obtain ⟨Aoq1, coq1, eoq1⟩ := Kd.R_slice HO330.out; subst eoq1; have p331 : 0 ≤ (0 : Int) := (by omega); have q331 : 0 < (t328.length : Int) := oa; obtain ⟨ad331, e331, hx331_0⟩ := Kd.at_int (Kd.R_reads' HO330.out).2.2 0 p331 q331; cases e331; have qi331 : (0 < t328.length) = True := eq_true (by omega); (try rw [show ((0 : Int)).toNat = 0 from rfl] at hx331_0); (try rw [Addr.add_zero'] at hx331_0); replace p331 := eq_true p331; replace q331 := eq_true q331) | ((with_reducible refine gate_callee (f := 144) rfl ?_); refine gl 62 Tryz.func144 #[.slice A0_2 l0_2.length c0_2, .slice A0_3 l0_3.length c0_3] ?_; (with_reducible refine (fluxionref01_Gcd.calls k (fun k_ => k_ < w.heap.size) _ _ l0_2 (fun k_ => k_ < w.heap.size) _ _ l0_3 t328 _ ?side1 ?side2 A25.out).mono ?_); (case side1 => exact Kd.V_mk HC0_2.out (Kd.F_below (Kd.C_F (Kd.heap_int .u32) HR0_2.out) (bl HB))); (case side2 => exact Kd.V_mk HC0_3.out (Kd.F_below (Kd.C_F (Kd.heap_int .u32) HR0_3.out) (bl HB))); rintro e wq2 ⟨v329, rfl, ho0, hb⟩; refine ⟨_, rfl, ?_⟩; have HO330 := aS (Kd.R_lower (Kd.R_mono (ok' := fun k_ => True) ho0 (fun _ hk_ => trivial)) (below_size (bl HB))); replace BK321 := aS (blk_below (bj BK321) hb); replace HB := aS (bs_ (bl HB) hb); clear hb ho0; obtain ⟨Aoq1, coq1, eoq1⟩ := Kd.R_slice HO330.out; subst eoq1) | ((with_reducible refine gate_dst (N := 1) rfl ?_); (try (refine gate_guard (by rfl) ?_; dsimp only)); refine bx (N := 1) (cs := #[.int .i64 a0_0, .bool a0_1, .slice A0_2 l0_2.length c0_2, .slice A0_3 l0_3.length c0_3]) (t := 61) ?_; intro gb321 hg wq1 hbox hb; have BK321 := aS (hbox); have GW321 := (gz hg HB : Aside0 (w.heap.size ≤ gb321)); have GE321 := (gz hg HB : Aside0 (w.heap.size ≤ gb321)); replace HB := aS (bs_ (bl HB) hb); clear hb hbox hg; obtain ⟨_, _, _, _, _, _, _, _⟩ := cf4 BK321.out) | (go_at_call 143; (with_reducible refine (fluxionref02_good.calls _ _ l0_3 false _ ?side1 ?side2 A5.out).mono ?_); (case side1 => repeat (first | exact (Kd.C_below HR0_3.out (bl HB)) | (with_reducible refine Kd.C_alloc ?_ _) | (with_reducible refine Kd.C_drewN ?_ _) | (with_reducible refine Kd.C_drew ?_))); (case side2 => exact HC0_3.out); rintro e w' ⟨rfl, ⟨nd, rfl⟩⟩) | ((with_reducible refine gate_callee (f := 143) rfl ?_); refine gl 34 Tryz.func143 #[.slice A0_2 l0_2.length c0_2] ?_; (with_reducible refine (fluxionref02_good.calls _ _ l0_2 false _ ?side1 ?side2 A3.out).mono ?_); (case side1 => exact cb HR0_2 HB); (case side2 => exact HC0_2.out); rintro e w' ⟨rfl, ⟨nd, rfl⟩⟩; refine ⟨_, rfl, ?_⟩)))
 ·go_ret
  exact ⟨re, bl HB⟩
 ·go_ret
  exact ⟨re, bl HB⟩
 ·go_ret
  exact ⟨re, bl HB⟩
 ·go_ret
  exact ⟨re, bl HB⟩
 ·go_ret
  exact ⟨re, bl HB⟩
 ·go_ret
  exact ⟨re, bl HB⟩
 ·go_ret
  exact ⟨re, bl HB⟩
 ·go_ret
  exact ⟨re, bl HB⟩
 ·go_ret
  exact ⟨re, bl HB⟩
 ·go_ret
  exact ⟨re, bl HB⟩
 ·go_ret
  exact ⟨re, bl HB⟩
 ·go_ret
  exact ⟨re, bl HB⟩
 ·go_ret
  exact ⟨re, bl HB⟩
 ·go_ret
  exact ⟨re, bl HB⟩
 ·go_ret
  exact ⟨re, bl HB⟩
def fluxionref29_empty.f (a0_0 : Int) (a0_1 : Bool) (l0_2 : List Int) (l0_3 : List Int) : Option (Bool) := if a0_0 = 0 then (if a0_1 = true then (some false) else (if (l0_2.length : Int) = 0 then (some ((l0_3.length : Int) == 0)) else (some false))) else (some false)
theorem fluxionref29_empty.calls (a0_0 : Int) (a0_1 : Bool) (A0_2 : Option Addr) (c0_2 : Nat) (l0_2 : List Int) (A0_3 : Option Addr) (c0_3 : Nat) (l0_3 : List Int) (r : Bool) (w : World) (hr0_2 : Kd.C (Kd.int .u32) w A0_2 l0_2.length l0_2) (hc0_2 : l0_2.length ≤ c0_2) (hr0_3 : Kd.C (Kd.int .u32) w A0_3 l0_3.length l0_3) (hc0_3 : l0_3.length ≤ c0_3) (h : fluxionref29_empty.f a0_0 a0_1 l0_2 l0_3 = some r) :
 Calls Tryz.prog 99 #[.agg #[.int .i64 a0_0, .bool a0_1, .slice A0_2 l0_2.length c0_2, .slice A0_3 l0_3.length c0_3]] w fun e w' => e = .returned (.bool r) ∧ Below w.heap.size w w' := by
 have hu61 := Tryz.underlying61
 have HR0_2 := aS hr0_2
 have HC0_2 := aS hc0_2
 clear hr0_2 hc0_2
 have HR0_3 := aS hr0_3
 have HC0_3 := aS hc0_3
 clear hr0_3 hc0_3
 have HB := aS (Below.refl w.heap.size w)
 have H := h
 unfold fluxionref29_empty.f at H
 clear h
 by_cases c2 : a0_0 = 0
 focus
  rw [if_pos c2] at H
  have c2b0 := bT c2
  have c2b1 := nF c2
  clear c2
  by_cases c3 : a0_1 = true
  focus
   subst c3
   rw [if_pos rfl] at H
   obtain rfl := sI H
  rotate_left 1
  focus
   replace c3 := Bool.eq_false_iff.mpr c3
   subst c3
   rw [if_neg iN] at H
   by_cases c6 : (l0_2.length : Int) = 0
   focus
    rw [if_pos c6] at H
    have c6b0 := bT c6
    have c6b1 := nF c6
    clear c6
    obtain rfl := sI H
   rotate_left 1
   focus
    rw [if_neg c6] at H
    have c6b0 := bF c6
    have c6b1 := nT c6
    have c6b2 : ¬ (l0_2 = []) := fun h_ => c6 (by rw [h_]; rfl)
    obtain rfl := sI H
   rotate_left 1
  rotate_left 2
 rotate_left 3
 focus
  rw [if_neg c2] at H
  have c2b0 := bF c2
  have c2b1 := nT c2
  obtain rfl := sI H
 rotate_left 1
 all_goals (go_enter Tryz.func99, Tryz.ntmps99)
 all_goals (go_wp2_with (first | ((with_reducible refine gate_dst (N := 1) rfl ?_); (try (refine gate_guard (by rfl) ?_; dsimp only)); refine bx (N := 1) (cs := #[.int .i64 a0_0, .bool true, .slice A0_2 l0_2.length c0_2, .slice A0_3 l0_3.length c0_3]) (t := 61) ?_; intro gb332 hg wq1 hbox hb; have BK332 := aS (hbox); have GW332 := (gz hg HB : Aside0 (w.heap.size ≤ gb332)); have GE332 := (gz hg HB : Aside0 (w.heap.size ≤ gb332)); replace HB := aS (bs_ (bl HB) hb); clear hb hbox hg; obtain ⟨_, _, _, _, _, _, _, _⟩ := cf4 BK332.out) | ((with_reducible refine gate_dst (N := 1) rfl ?_); (try (refine gate_guard (by rfl) ?_; dsimp only)); refine bx (N := 1) (cs := #[.int .i64 a0_0, .bool false, .slice A0_2 l0_2.length c0_2, .slice A0_3 l0_3.length c0_3]) (t := 61) ?_; intro gb332 hg wq1 hbox hb; have BK332 := aS (hbox); have GW332 := (gz hg HB : Aside0 (w.heap.size ≤ gb332)); have GE332 := (gz hg HB : Aside0 (w.heap.size ≤ gb332)); replace HB := aS (bs_ (bl HB) hb); clear hb hbox hg; obtain ⟨_, _, _, _, _, _, _, _⟩ := cf4 BK332.out) | ((with_reducible refine gate_dst (N := 1) rfl ?_); (try (refine gate_guard (by rfl) ?_; dsimp only)); refine bx (N := 1) (cs := #[.int .i64 a0_0, .bool a0_1, .slice A0_2 l0_2.length c0_2, .slice A0_3 l0_3.length c0_3]) (t := 61) ?_; intro gb332 hg wq1 hbox hb; have BK332 := aS (hbox); have GW332 := (gz hg HB : Aside0 (w.heap.size ≤ gb332)); have GE332 := (gz hg HB : Aside0 (w.heap.size ≤ gb332)); replace HB := aS (bs_ (bl HB) hb); clear hb hbox hg; obtain ⟨_, _, _, _, _, _, _, _⟩ := cf4 BK332.out)))
 ·go_ret
  exact ⟨re, bl HB⟩
 ·go_ret
  exact ⟨re, bl HB⟩
 ·go_ret
  exact ⟨re, bl HB⟩
 ·go_ret
  exact ⟨re, bl HB⟩
def fluxionref29_Formed.j0 : Nat → Bool → Int → Int → Int → Int → Int → Bool → List Int → List Int → ByteArray → Int → Int → Int → Bool → Option (Bool)
 | 0, _, _, _, _, _, _, _, _, _, _, _, _, _, _ => none
 | k + 1, x36, x334000, x334001, x334002, x334003, x334004, x334005, x334006, x334007, x341000, x341001, x341002, x341003, x341004 => if x36 = true then (some false) else (if x341004 = true then (if x334004 = 0 then ((fluxionref02_IsRat.f k x334004 x334005 x334006 x334007).bind fun t344 => (some t344)) else (some false)) else ((fluxionref29_empty.f x334004 x334005 x334006 x334007).bind fun t345 => (some t345)))
def fluxionref29_Formed.f (k : Nat) (a0_0 : Int) (a0_1 : Int) (a0_2 : Int) (a0_3 : Int) (a0_4 : Int) (a0_5 : Bool) (l0_6 : List Int) (l0_7 : List Int) : Option (Bool) := (fluxionref29_Of.f a0_0).bind fun bt334 => (if bt334.2.2.2.2.2 = true then ((fluxionref29_given.f bt334.2.1 a0_1).bind fun t341 => (if t341 = true then ((fluxionref29_given.f bt334.2.2.1 a0_2).bind fun t342 => (if t342 = true then ((fluxionref29_given.f bt334.2.2.2.1 a0_3).bind fun t343 => (fluxionref29_Formed.j0 k (!t343) a0_0 a0_1 a0_2 a0_3 a0_4 a0_5 l0_6 l0_7 bt334.1 bt334.2.1 bt334.2.2.1 bt334.2.2.2.1 bt334.2.2.2.2.1)) else (fluxionref29_Formed.j0 k true a0_0 a0_1 a0_2 a0_3 a0_4 a0_5 l0_6 l0_7 bt334.1 bt334.2.1 bt334.2.2.1 bt334.2.2.2.1 bt334.2.2.2.2.1))) else (fluxionref29_Formed.j0 k true a0_0 a0_1 a0_2 a0_3 a0_4 a0_5 l0_6 l0_7 bt334.1 bt334.2.1 bt334.2.2.1 bt334.2.2.2.1 bt334.2.2.2.2.1))) else (fluxionref29_Formed.j0 k true a0_0 a0_1 a0_2 a0_3 a0_4 a0_5 l0_6 l0_7 bt334.1 bt334.2.1 bt334.2.2.1 bt334.2.2.2.1 bt334.2.2.2.2.1))
theorem fluxionref29_Formed.calls (k : Nat) (a0_0 : Int) (a0_1 : Int) (a0_2 : Int) (a0_3 : Int) (a0_4 : Int) (a0_5 : Bool) (A0_6 : Option Addr) (c0_6 : Nat) (l0_6 : List Int) (A0_7 : Option Addr) (c0_7 : Nat) (l0_7 : List Int) (r : Bool) (w : World) (hr0_6 : Kd.C (Kd.int .u32) w A0_6 l0_6.length l0_6) (hc0_6 : l0_6.length ≤ c0_6) (hr0_7 : Kd.C (Kd.int .u32) w A0_7 l0_7.length l0_7) (hc0_7 : l0_7.length ≤ c0_7) (h : fluxionref29_Formed.f k a0_0 a0_1 a0_2 a0_3 a0_4 a0_5 l0_6 l0_7 = some r) :
 Calls Tryz.prog 34 #[.agg #[.int .i64 a0_0, .int .i64 a0_1, .int .i64 a0_2, .int .i64 a0_3, .int .i64 a0_4, .bool a0_5, .slice A0_6 l0_6.length c0_6, .slice A0_7 l0_7.length c0_7]] w fun e w' => e = .returned (.bool r) ∧ Below w.heap.size w w' := by
 have hu63 := Tryz.underlying63
 have hu97 := Tryz.underlying97
 have hu61 := Tryz.underlying61
 have HR0_6 := aS hr0_6
 have HC0_6 := aS hc0_6
 clear hr0_6 hc0_6
 have HR0_7 := aS hr0_7
 have HC0_7 := aS hc0_7
 clear hr0_7 hc0_7
 have HB := aS (Below.refl w.heap.size w)
 have H := h
 unfold fluxionref29_Formed.f at H
 clear h
 replace H := bS H
 obtain ⟨⟨t334, t335, t336, t337, t338, t339⟩, A20, H⟩ := H
 (try dsimp only at H)
 have A2 := aS A20
 clear A20
 have HC3 := aS H
 clear H
 go_enter Tryz.func34, Tryz.ntmps34
 go_upto_region 2 with (first | ((with_reducible refine gate_dst (N := 1) rfl ?_); refine bx (N := 1) (cs := #[.int .i64 a0_0, .int .i64 a0_1, .int .i64 a0_2, .int .i64 a0_3, .int .i64 a0_4, .bool a0_5, .slice A0_6 l0_6.length c0_6, .slice A0_7 l0_7.length c0_7]) (t := 63) ?_; intro gb333 hg w4 hbox hb; have BK333 := aS (hbox); have GW333 := (gz hg HB : Aside0 (w.heap.size ≤ gb333)); have GE333 := (gz hg HB : Aside0 (w.heap.size ≤ gb333)); replace HB := aS (bs_ (bl HB) hb); clear hb hbox hg; obtain ⟨hcz5_0, hcz5_1, hcz5_2, hcz5_3, hcz5_4, hcz5_5, hcz5_6, hcz5_7, hfz5_0, hfz5_1, hfz5_2, hfz5_3, hfz5_4, hfz5_5, hfz5_6, hfz5_7⟩ := cf8 BK333.out) | ((with_reducible refine gate_callee (f := 57) rfl ?_); refine gl 8 Tryz.func57 #[.int .i64 a0_0] ?_; (with_reducible refine (fluxionref29_Of.calls a0_0 t334 t335 t336 t337 t338 t339 _ A2.out).mono ?_); rintro e w6 ⟨rfl, hb⟩; refine ⟨_, rfl, ?_⟩; replace BK333 := aS (blk_below (bj BK333) hb); replace HB := aS (bs_ (bl HB) hb); clear hb) | ((with_reducible refine gate_dst (N := 3) rfl ?_); refine bx (N := 3) (cs := #[.string (⟨#[]⟩ : ByteArray), .int .i64 0, .int .i64 0, .int .i64 0, .bool false]) (t := 97) ?_; intro gb340 hg w7 hbox hb; have n0_ := aS (blk_below (bj BK333) hb); have n1_ := aS (bs_ (bl HB) hb); have n2_ := aS (hbox); have n3_ := (gz hg HB : Aside0 (w.heap.size ≤ gb340)); have n4_ := (gz hg HB : Aside0 (w.heap.size ≤ gb340)); have n5_ := aS ((by rw [hg]; exact Nat.ne_of_lt (blk_lt (bj BK333)) : gb333 ≠ gb340)); have n6_ := aS ((by rw [hg]; exact Nat.ne_of_gt (blk_lt (bj BK333)) : gb340 ≠ gb333)); clear BK333; clear HB; have BK333 := n0_; have HB := n1_; have BK340 := n2_; have GW340 := n3_; have GE340 := n4_; have NB333_340 := n5_; have NB340_333 := n6_; clear n0_ n1_ n2_ n3_ n4_ n5_ n6_; clear hb hbox hg; have hnb8 := NB340_333.out; have hnc8 := NB333_340.out; obtain ⟨hcz9_0, hcz9_1, hcz9_2, hcz9_3, hcz9_4, hfz9_0, hfz9_1, hfz9_2, hfz9_3, hfz9_4⟩ := cf5 BK340.out))
 (try simp only [Act.put, List.setIfInBounds_toArray, List.set_cons_zero, List.set_cons_succ])
 go_cut [36] (fun v36 wc => ∃ (kq : Nat) (x36_2 : Bool), v36 = .bool x36_2 ∧ Aside0 (fluxionref29_Formed.j0 kq x36_2 a0_0 a0_1 a0_2 a0_3 a0_4 a0_5 l0_6 l0_7 t334 t335 t336 t337 t338 = some r) ∧ Aside0 (kq ≤ k) ∧ Aside0 (wc.heap[gb333]? = some (.cells #[.int .i64 a0_0, .int .i64 a0_1, .int .i64 a0_2, .int .i64 a0_3, .int .i64 a0_4, .bool a0_5, (.slice A0_6 l0_6.length c0_6), (.slice A0_7 l0_7.length c0_7)] 63 (0, 0))) ∧ Aside0 (wc.heap[gb340]? = some (.cells #[.string t334, .int .i64 t335, .int .i64 t336, .int .i64 t337, .bool t338] 97 (0, 0))) ∧ Aside0 (Below w.heap.size w wc))
 case first =>
  have H := HC3.out
  clear HC3
  by_cases c10 : t339 = true; rotate_left
  ·replace c10 := Bool.eq_false_iff.mpr c10
   subst c10
   rw [if_neg iN] at H
   have H' := aS H
   clear H
   go_wp2
   go_meet
   case rel => exact ⟨_, (true), rs, H', ⟨by first | omega | exact Nat.le_refl _⟩, ⟨bp BK333⟩, ⟨bp BK340⟩, ⟨bl HB⟩⟩
  subst c10
  rw [if_pos rfl] at H
  replace H := bS H
  obtain ⟨t341, A110, H⟩ := H
  (try dsimp only at H)
  have A11 := aS A110
  clear A110
  by_cases c12 : t341 = true; rotate_left
  ·replace c12 := Bool.eq_false_iff.mpr c12
   subst c12
   rw [if_neg iN] at H
   have H' := aS H
   clear H
   have hnb22 := NB340_333.out
   have hnc22 := NB333_340.out
   obtain ⟨hcz23_0, hcz23_1, hcz23_2, hcz23_3, hcz23_4, hfz23_0, hfz23_1, hfz23_2, hfz23_3, hfz23_4⟩ := cf5 BK340.out
   obtain ⟨hcz24_0, hcz24_1, hcz24_2, hcz24_3, hcz24_4, hcz24_5, hcz24_6, hcz24_7, hfz24_0, hfz24_1, hfz24_2, hfz24_3, hfz24_4, hfz24_5, hfz24_6, hfz24_7⟩ := cf8 BK333.out
   go_wp2_with (first | (go_at_call 97; (with_reducible refine (fluxionref29_given.calls t335 a0_1 false _ A11.out).mono ?_); rintro e w' ⟨rfl, ⟨nd, rfl⟩⟩))
   go_meet
   case rel => exact ⟨_, (true), rs, H', ⟨by first | omega | exact Nat.le_refl _⟩, ⟨bp BK333⟩, ⟨bp BK340⟩, ⟨bl HB⟩⟩
  subst c12
  rw [if_pos rfl] at H
  replace H := bS H
  obtain ⟨t342, A130, H⟩ := H
  (try dsimp only at H)
  have A13 := aS A130
  clear A130
  by_cases c14 : t342 = true
  ·subst c14
   rw [if_pos rfl] at H
   replace H := bS H
   obtain ⟨t343, A150, H⟩ := H
   (try dsimp only at H)
   have A15 := aS A150
   clear A150
   have H' := aS H
   clear H
   have hnb16 := NB340_333.out
   have hnc16 := NB333_340.out
   obtain ⟨hcz17_0, hcz17_1, hcz17_2, hcz17_3, hcz17_4, hfz17_0, hfz17_1, hfz17_2, hfz17_3, hfz17_4⟩ := cf5 BK340.out
   obtain ⟨hcz18_0, hcz18_1, hcz18_2, hcz18_3, hcz18_4, hcz18_5, hcz18_6, hcz18_7, hfz18_0, hfz18_1, hfz18_2, hfz18_3, hfz18_4, hfz18_5, hfz18_6, hfz18_7⟩ := cf8 BK333.out
   go_wp2_with (first | (go_at_call 97; (with_reducible refine (fluxionref29_given.calls t335 a0_1 true _ A11.out).mono ?_); rintro e w' ⟨rfl, ⟨nd, rfl⟩⟩) | (go_at_call 97; (with_reducible refine (fluxionref29_given.calls t336 a0_2 true _ A13.out).mono ?_); rintro e w' ⟨rfl, ⟨nd, rfl⟩⟩) | (go_at_call 97; (with_reducible refine (fluxionref29_given.calls t337 a0_3 t343 _ A15.out).mono ?_); rintro e w' ⟨rfl, ⟨nd, rfl⟩⟩))
   go_meet
   case rel => exact ⟨_, (!t343), rs, H', ⟨by first | omega | exact Nat.le_refl _⟩, ⟨bp BK333⟩, ⟨bp BK340⟩, ⟨bl HB⟩⟩
  ·replace c14 := Bool.eq_false_iff.mpr c14
   subst c14
   rw [if_neg iN] at H
   have H' := aS H
   clear H
   have hnb19 := NB340_333.out
   have hnc19 := NB333_340.out
   obtain ⟨hcz20_0, hcz20_1, hcz20_2, hcz20_3, hcz20_4, hfz20_0, hfz20_1, hfz20_2, hfz20_3, hfz20_4⟩ := cf5 BK340.out
   obtain ⟨hcz21_0, hcz21_1, hcz21_2, hcz21_3, hcz21_4, hcz21_5, hcz21_6, hcz21_7, hfz21_0, hfz21_1, hfz21_2, hfz21_3, hfz21_4, hfz21_5, hfz21_6, hfz21_7⟩ := cf8 BK333.out
   go_wp2_with (first | (go_at_call 97; (with_reducible refine (fluxionref29_given.calls t335 a0_1 true _ A11.out).mono ?_); rintro e w' ⟨rfl, ⟨nd, rfl⟩⟩) | (go_at_call 97; (with_reducible refine (fluxionref29_given.calls t336 a0_2 false _ A13.out).mono ?_); rintro e w' ⟨rfl, ⟨nd, rfl⟩⟩))
   go_meet
   case rel => exact ⟨_, (true), rs, H', ⟨by first | omega | exact Nat.le_refl _⟩, ⟨bp BK333⟩, ⟨bp BK340⟩, ⟨bl HB⟩⟩
 case rest =>
  clear HC3
  (try clear c1); (try clear c2); (try clear p2); (try clear c3); (try clear c5); (try clear c8); (try clear c10); (try clear c12); (try clear c14); (try clear c16); (try clear c19); (try clear c22); (try clear hcz17_0); (try clear hcz17_1); (try clear hcz17_2); (try clear hcz17_3); (try clear hcz17_4); (try clear hcz18_0); (try clear hcz18_1); (try clear hcz18_2); (try clear hcz18_3); (try clear hcz18_4); (try clear hcz18_5); (try clear hcz18_6); (try clear hcz18_7); (try clear hcz20_0); (try clear hcz20_1); (try clear hcz20_2); (try clear hcz20_3); (try clear hcz20_4); (try clear hcz21_0); (try clear hcz21_1); (try clear hcz21_2); (try clear hcz21_3); (try clear hcz21_4); (try clear hcz21_5); (try clear hcz21_6); (try clear hcz21_7); (try clear hcz23_0); (try clear hcz23_1); (try clear hcz23_2); (try clear hcz23_3); (try clear hcz23_4); (try clear hcz24_0); (try clear hcz24_1); (try clear hcz24_2); (try clear hcz24_3); (try clear hcz24_4); (try clear hcz24_5); (try clear hcz24_6); (try clear hcz24_7); (try clear hcz5_0); (try clear hcz5_1); (try clear hcz5_2); (try clear hcz5_3); (try clear hcz5_4); (try clear hcz5_5); (try clear hcz5_6); (try clear hcz5_7); (try clear hcz9_0); (try clear hcz9_1); (try clear hcz9_2); (try clear hcz9_3); (try clear hcz9_4); (try clear hfz17_0); (try clear hfz17_1); (try clear hfz17_2); (try clear hfz17_3); (try clear hfz17_4); (try clear hfz18_0); (try clear hfz18_1); (try clear hfz18_2); (try clear hfz18_3); (try clear hfz18_4); (try clear hfz18_5); (try clear hfz18_6); (try clear hfz18_7); (try clear hfz20_0); (try clear hfz20_1); (try clear hfz20_2); (try clear hfz20_3); (try clear hfz20_4); (try clear hfz21_0); (try clear hfz21_1); (try clear hfz21_2); (try clear hfz21_3); (try clear hfz21_4); (try clear hfz21_5); (try clear hfz21_6); (try clear hfz21_7); (try clear hfz23_0); (try clear hfz23_1); (try clear hfz23_2); (try clear hfz23_3); (try clear hfz23_4); (try clear hfz24_0); (try clear hfz24_1); (try clear hfz24_2); (try clear hfz24_3); (try clear hfz24_4); (try clear hfz24_5); (try clear hfz24_6); (try clear hfz24_7); (try clear hfz5_0); (try clear hfz5_1); (try clear hfz5_2); (try clear hfz5_3); (try clear hfz5_4); (try clear hfz5_5); (try clear hfz5_6); (try clear hfz5_7); (try clear hfz9_0); (try clear hfz9_1); (try clear hfz9_2); (try clear hfz9_3); (try clear hfz9_4)
  obtain ⟨kq, x36_2, rfl, HA, HJ2, BK333, BK340, HB⟩ := hcut
  cases kq with
  | zero => exact absurd HA.out (by simp [fluxionref29_Formed.j0])
  | succ kj2 =>
   have H := HA.out
   clear HA
   simp only [fluxionref29_Formed.j0] at H
   by_cases c25 : x36_2 = true
   ·subst c25
    rw [if_pos rfl] at H
    obtain rfl := sI H
    go_wp2
    go_ret
    exact ⟨re, bl HB⟩
   replace c25 := Bool.eq_false_iff.mpr c25
   subst c25
   rw [if_neg iN] at H
   by_cases c26 : t338 = true; rotate_left
   ·replace c26 := Bool.eq_false_iff.mpr c26
    subst c26
    rw [if_neg iN] at H
    replace H := bS H
    obtain ⟨t345, A360, H⟩ := H
    (try dsimp only at H)
    have A36 := aS A360
    clear A360
    obtain rfl := sI H
    have hnb37 := NB340_333.out
    have hnc37 := NB333_340.out
    obtain ⟨_, _, _, _, _, _, _, _, _, _⟩ := cf5 BK340.out
    obtain ⟨_, _, _, _, _, _, _, _, _, _, _, _, _, _, _, _⟩ := cf8 BK333.out
    go_wp2_with (first | ((with_reducible refine gate_callee (f := 99) rfl ?_); refine gl 50 Tryz.func99 #[.agg #[.int .i64 a0_4, .bool a0_5, .slice A0_6 l0_6.length c0_6, .slice A0_7 l0_7.length c0_7]] ?_; (with_reducible refine (fluxionref29_empty.calls a0_4 a0_5 _ _ l0_6 _ _ l0_7 t345 _ ?side1 ?side2 ?side3 ?side4 A36.out).mono ?_); (case side1 => exact cb HR0_6 HB); (case side2 => exact HC0_6.out); (case side3 => exact cb HR0_7 HB); (case side4 => exact HC0_7.out); rintro e w40 ⟨rfl, hb⟩; refine ⟨_, rfl, ?_⟩; replace BK333 := aS (blk_below (bj BK333) hb); replace BK340 := aS (blk_below (bj BK340) hb); replace HB := aS (bs_ (bl HB) hb); clear hb))
    go_ret
    exact ⟨re, bl HB⟩
   subst c26
   rw [if_pos rfl] at H
   by_cases c27 : a0_4 = 0
   ·rw [if_pos c27] at H
    have c27b0 := bT c27
    have c27b1 := nF c27
    clear c27
    replace H := bS H
    obtain ⟨t344, A280, H⟩ := H
    (try dsimp only at H)
    have A28 := aS A280
    clear A280
    obtain rfl := sI H
    have hnb29 := NB340_333.out
    have hnc29 := NB333_340.out
    obtain ⟨_, _, _, _, _, _, _, _, _, _⟩ := cf5 BK340.out
    obtain ⟨_, _, _, _, _, _, _, _, _, _, _, _, _, _, _, _⟩ := cf8 BK333.out
    go_wp2_with (first | (go_at_call 98; (with_reducible refine (fluxionref02_IsRat.calls kj2 a0_4 a0_5 _ _ l0_6 _ _ l0_7 t344 _ ?side1 ?side2 ?side3 ?side4 A28.out).mono ?_); (case side1 => exact cb HR0_6 HB); (case side2 => exact HC0_6.out); (case side3 => exact cb HR0_7 HB); (case side4 => exact HC0_7.out); rintro e w32 ⟨rfl, hb⟩; replace BK333 := aS (blk_below (bj BK333) hb); replace BK340 := aS (blk_below (bj BK340) hb); replace HB := aS (bs_ (bl HB) hb); clear hb))
    go_ret
    exact ⟨re, bl HB⟩
   ·rw [if_neg c27] at H
    have c27b0 := bF c27
    have c27b1 := nT c27
    obtain rfl := sI H
    have hnb33 := NB340_333.out
    have hnc33 := NB333_340.out
    obtain ⟨_, _, _, _, _, _, _, _, _, _⟩ := cf5 BK340.out
    obtain ⟨_, _, _, _, _, _, _, _, _, _, _, _, _, _, _, _⟩ := cf8 BK333.out
    go_wp2
    go_ret
    exact ⟨re, bl HB⟩
end Go.Proofs.YtbkknoipgmlcmaaGreatDoor.P

