import Derived.Test.YtbkknoipgmlcmaaGreatDoorQGM14
set_option linter.all false
set_option maxHeartbeats 8000000
set_option maxRecDepth 100000
namespace Go.Proofs.QP
open Go.RowKit Go.Proofs.PW Go.Proofs.PL Go.Proofs.PM Go.Proofs.FX
section
section
attribute [local go_sem] yd zV
attribute [local go_sem] xf xg xD xE yI yJ xl xm
def yN.f (k : Nat) (a0_0 : Int) (a0_1 : Bool) (l0_2 : List Int) (l0_3 : List Int) : Option (Bool) := if a0_0 = 0 then ((yu.f l0_2).bind fun t322 => (if t322 = true then ((yu.f l0_3).bind fun t323 => (if t323 = true then (if (l0_3.length : Int) = 0 then (some false) else (if a0_1 = true then (if (l0_2.length : Int) = 0 then (some false) else ((zc.f k l0_2 l0_3).bind fun t324 => (if (t324.length : Int) = 1 then (if 0 < (t324.length : Int) then (some ((rd t324 0) == 1)) else (none)) else (some false)))) else ((zc.f k l0_2 l0_3).bind fun t328 => (if (t328.length : Int) = 1 then (if 0 < (t328.length : Int) then (some ((rd t328 0) == 1)) else (none)) else (some false))))) else (some false))) else (some false))) else (if a0_0 = 4 then (if a0_1 = true then (some false) else (if (l0_2.length : Int) = 0 then (some ((l0_3.length : Int) == 0)) else (some false))) else (if a0_0 = 11 then (if a0_1 = true then (some false) else (if (l0_2.length : Int) = 0 then (some ((l0_3.length : Int) == 0)) else (some false))) else (some false)))
theorem yN.calls (k : Nat) (a0_0 : Int) (a0_1 : Bool) (A0_2 : Option Addr) (c0_2 : Nat) (l0_2 : List Int) (A0_3 : Option Addr) (c0_3 : Nat) (l0_3 : List Int) (r : Bool) (w : World) (hr0_2 : Kd.C (Kd.int .u32) w A0_2 l0_2.length l0_2) (hc0_2 : l0_2.length ≤ c0_2) (hr0_3 : Kd.C (Kd.int .u32) w A0_3 l0_3.length l0_3) (hc0_3 : l0_3.length ≤ c0_3) (h : yN.f k a0_0 a0_1 l0_2 l0_3 = some r) :
 Calls Tryz.prog 98 #[.agg #[.int .i64 a0_0, .bool a0_1, .slice A0_2 l0_2.length c0_2, .slice A0_3 l0_3.length c0_3]] w fun e w' => e = .returned (.bool r) ∧ Below w.heap.size w w' := by
 have hu61 := Tryz.underlying61
 have HR0_2 := aS hr0_2
 have HC0_2 := aS hc0_2
 clear hr0_2 hc0_2
 have HR0_3 := aS hr0_3
 have HC0_3 := aS hc0_3
 clear hr0_3 hc0_3
 have HB := hR w
 have H := h
 unfold yN.f at H
 clear h
 by_cases c2 : a0_0 = 0
 focus
  rw [if_pos c2] at H
  have c2b0 := bT c2
  have c2b1 := nF c2
  clear c2
  replace H := bA H
  obtain ⟨t322, A3, H⟩ := H
  by_cases c4 : t322 = true
  focus
   subst c4
   rw [if_pos rfl] at H
   replace H := bA H
   obtain ⟨t323, A5, H⟩ := H
   by_cases c6 : t323 = true
   focus
    subst c6
    rw [if_pos rfl] at H
    by_cases c7 : (l0_3.length : Int) = 0
    focus
     rw [if_pos c7] at H
     have c7b0 := bT c7
     have c7b1 := nF c7
     clear c7
    rotate_left 1
    focus
     rw [if_neg c7] at H
     have c7b0 := bF c7
     have c7b1 := nT c7
     have c7b2 : ¬ (l0_3 = []) := fun h_ => c7 (by rw [h_]; rfl)
     by_cases c10 : a0_1 = true
     focus
      subst c10
      rw [if_pos rfl] at H
      by_cases c11 : (l0_2.length : Int) = 0
      focus
       rw [if_pos c11] at H
       have c11b0 := bT c11
       have c11b1 := nF c11
       clear c11
      rotate_left 1
      focus
       rw [if_neg c11] at H
       have c11b0 := bF c11
       have c11b1 := nT c11
       have c11b2 : ¬ (l0_2 = []) := fun h_ => c11 (by rw [h_]; rfl)
       replace H := bA H
       obtain ⟨t324, A14, H⟩ := H
       by_cases c15 : (t324.length : Int) = 1
       focus
        rw [if_pos c15] at H
        have c15b0 := bT c15
        have c15b1 := nF c15
        clear c15
        replace H := iN_ H
        obtain ⟨c16, H⟩ := H
        have c16b0 := dT c16
        have c16b1 : decide (0 < t324.length) = true := dT (by omega)
        clear c16
       rotate_left 1
       focus
        rw [if_neg c15] at H
        have c15b0 := bF c15
        have c15b1 := nT c15
       rotate_left 1
      rotate_left 2
     rotate_left 3
     focus
      replace c10 := Bool.eq_false_iff.mpr c10
      subst c10
      rw [if_neg iN] at H
      replace H := bA H
      obtain ⟨t328, A25, H⟩ := H
      by_cases c26 : (t328.length : Int) = 1
      focus
       rw [if_pos c26] at H
       have c26b0 := bT c26
       have c26b1 := nF c26
       clear c26
       replace H := iN_ H
       obtain ⟨c27, H⟩ := H
       have c27b0 := dT c27
       have c27b1 : decide (0 < t328.length) = true := dT (by omega)
       clear c27
      rotate_left 1
      focus
       rw [if_neg c26] at H
       have c26b0 := bF c26
       have c26b1 := nT c26
      rotate_left 1
     rotate_left 2
    rotate_left 5
   rotate_left 6
   focus
    replace c6 := Bool.eq_false_iff.mpr c6
    subst c6
    rw [if_neg iN] at H
   rotate_left 1
  rotate_left 7
  focus
   replace c4 := Bool.eq_false_iff.mpr c4
   subst c4
   rw [if_neg iN] at H
  rotate_left 1
 rotate_left 8
 focus
  rw [if_neg c2] at H
  have c2b0 := bF c2
  have c2b1 := nT c2
  by_cases c40 : a0_0 = 4
  focus
   rw [if_pos c40] at H
   have c40b0 := bT c40
   have c40b1 := nF c40
   clear c40
   by_cases c41 : a0_1 = true
   focus
    subst c41
    rw [if_pos rfl] at H
   rotate_left 1
   focus
    replace c41 := Bool.eq_false_iff.mpr c41
    subst c41
    rw [if_neg iN] at H
    by_cases c44 : (l0_2.length : Int) = 0
    focus
     rw [if_pos c44] at H
     have c44b0 := bT c44
     have c44b1 := nF c44
     clear c44
    rotate_left 1
    focus
     rw [if_neg c44] at H
     have c44b0 := bF c44
     have c44b1 := nT c44
     have c44b2 : ¬ (l0_2 = []) := fun h_ => c44 (by rw [h_]; rfl)
    rotate_left 1
   rotate_left 2
  rotate_left 3
  focus
   rw [if_neg c40] at H
   have c40b0 := bF c40
   have c40b1 := nT c40
   by_cases c49 : a0_0 = 11
   focus
    rw [if_pos c49] at H
    have c49b0 := bT c49
    have c49b1 := nF c49
    clear c49
    by_cases c50 : a0_1 = true
    focus
     subst c50
     rw [if_pos rfl] at H
    rotate_left 1
    focus
     replace c50 := Bool.eq_false_iff.mpr c50
     subst c50
     rw [if_neg iN] at H
     by_cases c53 : (l0_2.length : Int) = 0
     focus
      rw [if_pos c53] at H
      have c53b0 := bT c53
      have c53b1 := nF c53
      clear c53
     rotate_left 1
     focus
      rw [if_neg c53] at H
      have c53b0 := bF c53
      have c53b1 := nT c53
      have c53b2 : ¬ (l0_2 = []) := fun h_ => c53 (by rw [h_]; rfl)
     rotate_left 1
    rotate_left 2
   rotate_left 3
   focus
    rw [if_neg c49] at H
    have c49b0 := bF c49
    have c49b1 := nT c49
   rotate_left 1
  rotate_left 4
 rotate_left 7
 all_goals (obtain rfl := sI H)
 all_goals (go_enter Tryz.func98, Tryz.ntmps98)
 all_goals (go_wp2_with (first | ((with_reducible refine zq (N := 1) rfl ?_); (try (refine yq (by rfl) ?_; dsimp only)); refine bx (N := 1) (cs := #[.int .i64 a0_0, .bool true, .slice A0_2 l0_2.length c0_2, .slice A0_3 l0_3.length c0_3]) (t := 61) ?_; intro gb321 hg wq1 hbox hb; have BK321 := aS (hbox); have GW321 := (gz hg HB : Aside0 (w.heap.size ≤ gb321)); have GE321 := (gz hg HB : Aside0 (w.heap.size ≤ gb321)); replace HB := hB_ HB hb; clear hb hbox hg; obtain ⟨_, _, _, _, _, _, _, _⟩ := cf4 BK321.out) | ((with_reducible refine zi (f := 143) rfl ?_); refine gl 34 Tryz.func143 #[.slice A0_2 l0_2.length c0_2] ?_; (with_reducible refine (yu.calls _ _ l0_2 true _ ?side1 ?side2 A3.out).mono ?_); (case side1 => exact cb HR0_2 HB); (case side2 => exact HC0_2.out); rintro e w' ⟨rfl, ⟨nd, rfl⟩⟩; refine ⟨_, rfl, ?_⟩) | (go_at_call 143; (with_reducible refine (yu.calls _ _ l0_3 true _ ?side1 ?side2 A5.out).mono ?_); (case side1 => repeat (first | exact (Kd.zK HR0_3.out (bl HB)) | (with_reducible refine Kd.z02 ?_ _) | (with_reducible refine Kd.z03 ?_ _) | (with_reducible refine Kd.z0L ?_))); (case side2 => exact HC0_3.out); rintro e w' ⟨rfl, ⟨nd, rfl⟩⟩) | ((with_reducible refine zi (f := 144) rfl ?_); refine gl 62 Tryz.func144 #[.slice A0_2 l0_2.length c0_2, .slice A0_3 l0_3.length c0_3] ?_; (with_reducible refine (zc.calls k (fun k_ => k_ < w.heap.size) _ _ l0_2 (fun k_ => k_ < w.heap.size) _ _ l0_3 t324 _ ?side1 ?side2 A14.out).mono ?_); (case side1 => exact Kd.z1a HC0_2.out (Kd.yU (Kd.C_F (Kd.yw .u32) HR0_2.out) (bl HB))); (case side2 => exact Kd.z1a HC0_3.out (Kd.yU (Kd.C_F (Kd.yw .u32) HR0_3.out) (bl HB))); rintro e wq2 ⟨v325, rfl, ho0, hb⟩; refine ⟨_, rfl, ?_⟩; have HO326 := aS (Kd.zL (Kd.zw (ok' := fun k_ => True) ho0 (fun _ hk_ => trivial)) (zg (bl HB))); replace BK321 := bb BK321 hb; replace HB := hB_ HB hb; clear hb ho0; obtain ⟨Aoq1, coq1, eoq1⟩ := Kd.zB HO326.out; subst eoq1; have p327 : 0 ≤ (0 : Int) := (by omega); have q327 : 0 < (t324.length : Int) := oa; obtain ⟨ad327, e327, hx327_0⟩ := Kd.zT (Kd.zz HO326.out).2.2 0 p327 q327; cases e327; have qi327 : (0 < t324.length) = True := eq_true (by omega); (try rw [show ((0 : Int)).toNat = 0 from rfl] at hx327_0); (try rw [Addr.add_zero'] at hx327_0); replace p327 := eq_true p327; replace q327 := eq_true q327) | ((with_reducible refine zi (f := 144) rfl ?_); refine gl 62 Tryz.func144 #[.slice A0_2 l0_2.length c0_2, .slice A0_3 l0_3.length c0_3] ?_; (with_reducible refine (zc.calls k (fun k_ => k_ < w.heap.size) _ _ l0_2 (fun k_ => k_ < w.heap.size) _ _ l0_3 t324 _ ?side1 ?side2 A14.out).mono ?_); (case side1 => exact Kd.z1a HC0_2.out (Kd.yU (Kd.C_F (Kd.yw .u32) HR0_2.out) (bl HB))); (case side2 => exact Kd.z1a HC0_3.out (Kd.yU (Kd.C_F (Kd.yw .u32) HR0_3.out) (bl HB))); rintro e wq2 ⟨v325, rfl, ho0, hb⟩; refine ⟨_, rfl, ?_⟩; have HO326 := aS (Kd.zL (Kd.zw (ok' := fun k_ => True) ho0 (fun _ hk_ => trivial)) (zg (bl HB))); replace BK321 := bb BK321 hb; replace HB := hB_ HB hb; clear hb ho0; obtain ⟨Aoq1, coq1, eoq1⟩ := Kd.zB HO326.out; subst eoq1) | ((with_reducible refine zq (N := 1) rfl ?_); (try (refine yq (by rfl) ?_; dsimp only)); refine bx (N := 1) (cs := #[.int .i64 a0_0, .bool false, .slice A0_2 l0_2.length c0_2, .slice A0_3 l0_3.length c0_3]) (t := 61) ?_; intro gb321 hg wq1 hbox hb; have BK321 := aS (hbox); have GW321 := (gz hg HB : Aside0 (w.heap.size ≤ gb321)); have GE321 := (gz hg HB : Aside0 (w.heap.size ≤ gb321)); replace HB := hB_ HB hb; clear hb hbox hg; obtain ⟨_, _, _, _, _, _, _, _⟩ := cf4 BK321.out) | ((with_reducible refine zi (f := 144) rfl ?_); refine gl 62 Tryz.func144 #[.slice A0_2 l0_2.length c0_2, .slice A0_3 l0_3.length c0_3] ?_; (with_reducible refine (zc.calls k (fun k_ => k_ < w.heap.size) _ _ l0_2 (fun k_ => k_ < w.heap.size) _ _ l0_3 t328 _ ?side1 ?side2 A25.out).mono ?_); (case side1 => exact Kd.z1a HC0_2.out (Kd.yU (Kd.C_F (Kd.yw .u32) HR0_2.out) (bl HB))); (case side2 => exact Kd.z1a HC0_3.out (Kd.yU (Kd.C_F (Kd.yw .u32) HR0_3.out) (bl HB))); rintro e wq2 ⟨v329, rfl, ho0, hb⟩; refine ⟨_, rfl, ?_⟩; have HO330 := aS (Kd.zL (Kd.zw (ok' := fun k_ => True) ho0 (fun _ hk_ => trivial)) (zg (bl HB))); replace BK321 := bb BK321 hb; replace HB := hB_ HB hb; clear hb ho0; obtain ⟨Aoq1, coq1, eoq1⟩ := Kd.zB HO330.out; subst eoq1; have p331 : 0 ≤ (0 : Int) := (by omega); have q331 : 0 < (t328.length : Int) := oa; obtain ⟨ad331, e331, hx331_0⟩ := Kd.zT (Kd.zz HO330.out).2.2 0 p331 q331; cases e331; have qi331 : (0 < t328.length) = True := eq_true (by omega); (try rw [show ((0 : Int)).toNat = 0 from rfl] at hx331_0); (try rw [Addr.add_zero'] at hx331_0); replace p331 := eq_true p331; replace q331 := eq_true q331) | ((with_reducible refine zi (f := 144) rfl ?_); refine gl 62 Tryz.func144 #[.slice A0_2 l0_2.length c0_2, .slice A0_3 l0_3.length c0_3] ?_; (with_reducible refine (zc.calls k (fun k_ => k_ < w.heap.size) _ _ l0_2 (fun k_ => k_ < w.heap.size) _ _ l0_3 t328 _ ?side1 ?side2 A25.out).mono ?_); (case side1 => exact Kd.z1a HC0_2.out (Kd.yU (Kd.C_F (Kd.yw .u32) HR0_2.out) (bl HB))); (case side2 => exact Kd.z1a HC0_3.out (Kd.yU (Kd.C_F (Kd.yw .u32) HR0_3.out) (bl HB))); rintro e wq2 ⟨v329, rfl, ho0, hb⟩; refine ⟨_, rfl, ?_⟩; have HO330 := aS (Kd.zL (Kd.zw (ok' := fun k_ => True) ho0 (fun _ hk_ => trivial)) (zg (bl HB))); replace BK321 := bb BK321 hb; replace HB := hB_ HB hb; clear hb ho0; obtain ⟨Aoq1, coq1, eoq1⟩ := Kd.zB HO330.out; subst eoq1) | ((with_reducible refine zq (N := 1) rfl ?_); (try (refine yq (by rfl) ?_; dsimp only)); refine bx (N := 1) (cs := #[.int .i64 a0_0, .bool a0_1, .slice A0_2 l0_2.length c0_2, .slice A0_3 l0_3.length c0_3]) (t := 61) ?_; intro gb321 hg wq1 hbox hb; have BK321 := aS (hbox); have GW321 := (gz hg HB : Aside0 (w.heap.size ≤ gb321)); have GE321 := (gz hg HB : Aside0 (w.heap.size ≤ gb321)); replace HB := hB_ HB hb; clear hb hbox hg; obtain ⟨_, _, _, _, _, _, _, _⟩ := cf4 BK321.out) | (go_at_call 143; (with_reducible refine (yu.calls _ _ l0_3 false _ ?side1 ?side2 A5.out).mono ?_); (case side1 => repeat (first | exact (Kd.zK HR0_3.out (bl HB)) | (with_reducible refine Kd.z02 ?_ _) | (with_reducible refine Kd.z03 ?_ _) | (with_reducible refine Kd.z0L ?_))); (case side2 => exact HC0_3.out); rintro e w' ⟨rfl, ⟨nd, rfl⟩⟩) | ((with_reducible refine zi (f := 143) rfl ?_); refine gl 34 Tryz.func143 #[.slice A0_2 l0_2.length c0_2] ?_; (with_reducible refine (yu.calls _ _ l0_2 false _ ?side1 ?side2 A3.out).mono ?_); (case side1 => exact cb HR0_2 HB); (case side2 => exact HC0_2.out); rintro e w' ⟨rfl, ⟨nd, rfl⟩⟩; refine ⟨_, rfl, ?_⟩)))
 ·go_ret
  exact ⟨re, bl HB⟩
 ·go_ret
  exact ⟨re, bl HB⟩
 ·go_ret
  exact ⟨re, bl HB⟩
 ·go_ret
  exact ⟨re, bl HB⟩
 ·go_ret
  exact ⟨re, bl HB⟩
 ·go_ret
  exact ⟨re, bl HB⟩
 ·go_ret
  exact ⟨re, bl HB⟩
 ·go_ret
  exact ⟨re, bl HB⟩
 ·go_ret
  exact ⟨re, bl HB⟩
 ·go_ret
  exact ⟨re, bl HB⟩
 ·go_ret
  exact ⟨re, bl HB⟩
 ·go_ret
  exact ⟨re, bl HB⟩
 ·go_ret
  exact ⟨re, bl HB⟩
 ·go_ret
  exact ⟨re, bl HB⟩
 ·go_ret
  exact ⟨re, bl HB⟩
def xd.f (a0_0 : Int) (a0_1 : Bool) (l0_2 : List Int) (l0_3 : List Int) : Option (Bool) := if a0_0 = 0 then (if a0_1 = true then (some false) else (if (l0_2.length : Int) = 0 then (some ((l0_3.length : Int) == 0)) else (some false))) else (some false)
theorem xd.calls (a0_0 : Int) (a0_1 : Bool) (A0_2 : Option Addr) (c0_2 : Nat) (l0_2 : List Int) (A0_3 : Option Addr) (c0_3 : Nat) (l0_3 : List Int) (r : Bool) (w : World) (hr0_2 : Kd.C (Kd.int .u32) w A0_2 l0_2.length l0_2) (hc0_2 : l0_2.length ≤ c0_2) (hr0_3 : Kd.C (Kd.int .u32) w A0_3 l0_3.length l0_3) (hc0_3 : l0_3.length ≤ c0_3) (h : xd.f a0_0 a0_1 l0_2 l0_3 = some r) :
 Calls Tryz.prog 99 #[.agg #[.int .i64 a0_0, .bool a0_1, .slice A0_2 l0_2.length c0_2, .slice A0_3 l0_3.length c0_3]] w fun e w' => e = .returned (.bool r) ∧ Below w.heap.size w w' := by
 have hu61 := Tryz.underlying61
 have HR0_2 := aS hr0_2
 have HC0_2 := aS hc0_2
 clear hr0_2 hc0_2
 have HR0_3 := aS hr0_3
 have HC0_3 := aS hc0_3
 clear hr0_3 hc0_3
 have HB := hR w
 have H := h
 unfold xd.f at H
 clear h
 by_cases c2 : a0_0 = 0
 focus
  rw [if_pos c2] at H
  have c2b0 := bT c2
  have c2b1 := nF c2
  clear c2
  by_cases c3 : a0_1 = true
  focus
   subst c3
   rw [if_pos rfl] at H
  rotate_left 1
  focus
   replace c3 := Bool.eq_false_iff.mpr c3
   subst c3
   rw [if_neg iN] at H
   by_cases c6 : (l0_2.length : Int) = 0
   focus
    rw [if_pos c6] at H
    have c6b0 := bT c6
    have c6b1 := nF c6
    clear c6
   rotate_left 1
   focus
    rw [if_neg c6] at H
    have c6b0 := bF c6
    have c6b1 := nT c6
    have c6b2 : ¬ (l0_2 = []) := fun h_ => c6 (by rw [h_]; rfl)
   rotate_left 1
  rotate_left 2
 rotate_left 3
 focus
  rw [if_neg c2] at H
  have c2b0 := bF c2
  have c2b1 := nT c2
 rotate_left 1
 all_goals (obtain rfl := sI H)
 all_goals (go_enter Tryz.func99, Tryz.ntmps99)
 all_goals (go_wp2_with (first | ((with_reducible refine zq (N := 1) rfl ?_); (try (refine yq (by rfl) ?_; dsimp only)); refine bx (N := 1) (cs := #[.int .i64 a0_0, .bool true, .slice A0_2 l0_2.length c0_2, .slice A0_3 l0_3.length c0_3]) (t := 61) ?_; intro gb332 hg wq1 hbox hb; have BK332 := aS (hbox); have GW332 := (gz hg HB : Aside0 (w.heap.size ≤ gb332)); have GE332 := (gz hg HB : Aside0 (w.heap.size ≤ gb332)); replace HB := hB_ HB hb; clear hb hbox hg; obtain ⟨_, _, _, _, _, _, _, _⟩ := cf4 BK332.out) | ((with_reducible refine zq (N := 1) rfl ?_); (try (refine yq (by rfl) ?_; dsimp only)); refine bx (N := 1) (cs := #[.int .i64 a0_0, .bool false, .slice A0_2 l0_2.length c0_2, .slice A0_3 l0_3.length c0_3]) (t := 61) ?_; intro gb332 hg wq1 hbox hb; have BK332 := aS (hbox); have GW332 := (gz hg HB : Aside0 (w.heap.size ≤ gb332)); have GE332 := (gz hg HB : Aside0 (w.heap.size ≤ gb332)); replace HB := hB_ HB hb; clear hb hbox hg; obtain ⟨_, _, _, _, _, _, _, _⟩ := cf4 BK332.out) | ((with_reducible refine zq (N := 1) rfl ?_); (try (refine yq (by rfl) ?_; dsimp only)); refine bx (N := 1) (cs := #[.int .i64 a0_0, .bool a0_1, .slice A0_2 l0_2.length c0_2, .slice A0_3 l0_3.length c0_3]) (t := 61) ?_; intro gb332 hg wq1 hbox hb; have BK332 := aS (hbox); have GW332 := (gz hg HB : Aside0 (w.heap.size ≤ gb332)); have GE332 := (gz hg HB : Aside0 (w.heap.size ≤ gb332)); replace HB := hB_ HB hb; clear hb hbox hg; obtain ⟨_, _, _, _, _, _, _, _⟩ := cf4 BK332.out)))
 ·go_ret
  exact ⟨re, bl HB⟩
 ·go_ret
  exact ⟨re, bl HB⟩
 ·go_ret
  exact ⟨re, bl HB⟩
 ·go_ret
  exact ⟨re, bl HB⟩
def zC.j0 : Nat → Bool → Int → Int → Int → Int → Int → Bool → List Int → List Int → ByteArray → Int → Int → Int → Bool → Option (Bool)
 | 0, _, _, _, _, _, _, _, _, _, _, _, _, _, _ => none
 | k + 1, x36, x334000, x334001, x334002, x334003, x334004, x334005, x334006, x334007, x341000, x341001, x341002, x341003, x341004 => if x36 = true then (some false) else (if x341004 = true then (if x334004 = 0 then ((yN.f k x334004 x334005 x334006 x334007).bind fun t344 => (some t344)) else (some false)) else ((xd.f x334004 x334005 x334006 x334007).bind fun t345 => (some t345)))
def zC.f (k : Nat) (a0_0 : Int) (a0_1 : Int) (a0_2 : Int) (a0_3 : Int) (a0_4 : Int) (a0_5 : Bool) (l0_6 : List Int) (l0_7 : List Int) : Option (Bool) := (yr.f a0_0).bind fun bt334 => (if bt334.2.2.2.2.2 = true then ((ye.f bt334.2.1 a0_1).bind fun t341 => (if t341 = true then ((ye.f bt334.2.2.1 a0_2).bind fun t342 => (if t342 = true then ((ye.f bt334.2.2.2.1 a0_3).bind fun t343 => (zC.j0 k (!t343) a0_0 a0_1 a0_2 a0_3 a0_4 a0_5 l0_6 l0_7 bt334.1 bt334.2.1 bt334.2.2.1 bt334.2.2.2.1 bt334.2.2.2.2.1)) else (zC.j0 k true a0_0 a0_1 a0_2 a0_3 a0_4 a0_5 l0_6 l0_7 bt334.1 bt334.2.1 bt334.2.2.1 bt334.2.2.2.1 bt334.2.2.2.2.1))) else (zC.j0 k true a0_0 a0_1 a0_2 a0_3 a0_4 a0_5 l0_6 l0_7 bt334.1 bt334.2.1 bt334.2.2.1 bt334.2.2.2.1 bt334.2.2.2.2.1))) else (zC.j0 k true a0_0 a0_1 a0_2 a0_3 a0_4 a0_5 l0_6 l0_7 bt334.1 bt334.2.1 bt334.2.2.1 bt334.2.2.2.1 bt334.2.2.2.2.1))
theorem zC.calls (k : Nat) (a0_0 : Int) (a0_1 : Int) (a0_2 : Int) (a0_3 : Int) (a0_4 : Int) (a0_5 : Bool) (A0_6 : Option Addr) (c0_6 : Nat) (l0_6 : List Int) (A0_7 : Option Addr) (c0_7 : Nat) (l0_7 : List Int) (r : Bool) (w : World) (hr0_6 : Kd.C (Kd.int .u32) w A0_6 l0_6.length l0_6) (hc0_6 : l0_6.length ≤ c0_6) (hr0_7 : Kd.C (Kd.int .u32) w A0_7 l0_7.length l0_7) (hc0_7 : l0_7.length ≤ c0_7) (h : zC.f k a0_0 a0_1 a0_2 a0_3 a0_4 a0_5 l0_6 l0_7 = some r) :
 Calls Tryz.prog 34 #[.agg #[.int .i64 a0_0, .int .i64 a0_1, .int .i64 a0_2, .int .i64 a0_3, .int .i64 a0_4, .bool a0_5, .slice A0_6 l0_6.length c0_6, .slice A0_7 l0_7.length c0_7]] w fun e w' => e = .returned (.bool r) ∧ Below w.heap.size w w' := by
 have hu63 := Tryz.underlying63
 have hu97 := Tryz.underlying97
 have hu61 := Tryz.underlying61
 have HR0_6 := aS hr0_6
 have HC0_6 := aS hc0_6
 clear hr0_6 hc0_6
 have HR0_7 := aS hr0_7
 have HC0_7 := aS hc0_7
 clear hr0_7 hc0_7
 have HB := hR w
 have H := h
 unfold zC.f at H
 clear h
 replace H := bS H
 obtain ⟨⟨t334, t335, t336, t337, t338, t339⟩, A20, H⟩ := H
 (try dsimp only at H)
 have A2 := aS A20
 clear A20
 have HC3 := aS H
 clear H
 go_enter Tryz.func34, Tryz.ntmps34
 go_upto_region 2 with (first | ((with_reducible refine zq (N := 1) rfl ?_); refine bx (N := 1) (cs := #[.int .i64 a0_0, .int .i64 a0_1, .int .i64 a0_2, .int .i64 a0_3, .int .i64 a0_4, .bool a0_5, .slice A0_6 l0_6.length c0_6, .slice A0_7 l0_7.length c0_7]) (t := 63) ?_; intro gb333 hg w4 hbox hb; have BK333 := aS (hbox); have GW333 := (gz hg HB : Aside0 (w.heap.size ≤ gb333)); have GE333 := (gz hg HB : Aside0 (w.heap.size ≤ gb333)); replace HB := hB_ HB hb; clear hb hbox hg; obtain ⟨_, _, _, _, _, _, _, _, _, _, _, _, _, _, _, _⟩ := cf8 BK333.out) | ((with_reducible refine zi (f := 57) rfl ?_); refine gl 8 Tryz.func57 #[.int .i64 a0_0] ?_; (with_reducible refine (yr.calls a0_0 t334 t335 t336 t337 t338 t339 _ A2.out).mono ?_); rintro e w6 ⟨rfl, hb⟩; refine ⟨_, rfl, ?_⟩; replace BK333 := bb BK333 hb; replace HB := hB_ HB hb; clear hb) | ((with_reducible refine zq (N := 3) rfl ?_); refine bx (N := 3) (cs := #[.string (⟨#[]⟩ : ByteArray), .int .i64 0, .int .i64 0, .int .i64 0, .bool false]) (t := 97) ?_; intro gb340 hg w7 hbox hb; have n0_ := aS (zf (bj BK333) hb); have n1_ := aS (bs_ (bl HB) hb); have n2_ := aS (hbox); have n3_ := (gz hg HB : Aside0 (w.heap.size ≤ gb340)); have n4_ := (gz hg HB : Aside0 (w.heap.size ≤ gb340)); have n5_ := aS ((by rw [hg]; exact Nat.ne_of_lt (yR (bj BK333)) : gb333 ≠ gb340)); have n6_ := aS ((by rw [hg]; exact Nat.ne_of_gt (yR (bj BK333)) : gb340 ≠ gb333)); clear BK333; clear HB; have BK333 := n0_; have HB := n1_; have BK340 := n2_; have GW340 := n3_; have GE340 := n4_; have NB333_340 := n5_; have NB340_333 := n6_; clear n0_ n1_ n2_ n3_ n4_ n5_ n6_; clear hb hbox hg; have hnb8 := NB340_333.out; have hnc8 := NB333_340.out; obtain ⟨_, _, _, _, _, _, _, _, _, _⟩ := cf5 BK340.out))
 (try simp only [Act.put, List.setIfInBounds_toArray, List.set_cons_zero, List.set_cons_succ])
 go_cut [36] (fun v36 wc => ∃ (kq : Nat) (x36_2 : Bool), v36 = .bool x36_2 ∧ Aside0 (zC.j0 kq x36_2 a0_0 a0_1 a0_2 a0_3 a0_4 a0_5 l0_6 l0_7 t334 t335 t336 t337 t338 = some r) ∧ Aside0 (kq ≤ k) ∧ Aside0 (wc.heap[gb333]? = some (.cells #[.int .i64 a0_0, .int .i64 a0_1, .int .i64 a0_2, .int .i64 a0_3, .int .i64 a0_4, .bool a0_5, (.slice A0_6 l0_6.length c0_6), (.slice A0_7 l0_7.length c0_7)] 63 (0, 0))) ∧ Aside0 (wc.heap[gb340]? = some (.cells #[.string t334, .int .i64 t335, .int .i64 t336, .int .i64 t337, .bool t338] 97 (0, 0))) ∧ Aside0 (Below w.heap.size w wc))
 case first =>
  have H := HC3.out
  clear HC3
  by_cases c10 : t339 = true; rotate_left
  ·replace c10 := Bool.eq_false_iff.mpr c10
   subst c10
   rw [if_neg iN] at H
   have H' := aS H
   clear H
   go_wp2
   go_meet
   case rel => exact ⟨_, (true), rs, H', ⟨by first | omega | exact Nat.le_refl _⟩, ⟨bp BK333⟩, ⟨bp BK340⟩, ⟨bl HB⟩⟩
  subst c10
  rw [if_pos rfl] at H
  replace H := bA H
  obtain ⟨t341, A11, H⟩ := H
  by_cases c12 : t341 = true; rotate_left
  ·replace c12 := Bool.eq_false_iff.mpr c12
   subst c12
   rw [if_neg iN] at H
   have H' := aS H
   clear H
   have hnb22 := NB340_333.out
   have hnc22 := NB333_340.out
   obtain ⟨_, _, _, _, _, _, _, _, _, _⟩ := cf5 BK340.out
   obtain ⟨_, _, _, _, _, _, _, _, _, _, _, _, _, _, _, _⟩ := cf8 BK333.out
   go_wp2_with (first | (go_at_call 97; (with_reducible refine (ye.calls t335 a0_1 false _ A11.out).mono ?_); rintro e w' ⟨rfl, ⟨nd, rfl⟩⟩))
   go_meet
   case rel => exact ⟨_, (true), rs, H', ⟨by first | omega | exact Nat.le_refl _⟩, ⟨bp BK333⟩, ⟨bp BK340⟩, ⟨bl HB⟩⟩
  subst c12
  rw [if_pos rfl] at H
  replace H := bA H
  obtain ⟨t342, A13, H⟩ := H
  by_cases c14 : t342 = true
  ·subst c14
   rw [if_pos rfl] at H
   replace H := bA H
   obtain ⟨t343, A15, H⟩ := H
   have H' := aS H
   clear H
   have hnb16 := NB340_333.out
   have hnc16 := NB333_340.out
   obtain ⟨_, _, _, _, _, _, _, _, _, _⟩ := cf5 BK340.out
   obtain ⟨_, _, _, _, _, _, _, _, _, _, _, _, _, _, _, _⟩ := cf8 BK333.out
   go_wp2_with (first | (go_at_call 97; (with_reducible refine (ye.calls t335 a0_1 true _ A11.out).mono ?_); rintro e w' ⟨rfl, ⟨nd, rfl⟩⟩) | (go_at_call 97; (with_reducible refine (ye.calls t336 a0_2 true _ A13.out).mono ?_); rintro e w' ⟨rfl, ⟨nd, rfl⟩⟩) | (go_at_call 97; (with_reducible refine (ye.calls t337 a0_3 t343 _ A15.out).mono ?_); rintro e w' ⟨rfl, ⟨nd, rfl⟩⟩))
   go_meet
   case rel => exact ⟨_, (!t343), rs, H', ⟨by first | omega | exact Nat.le_refl _⟩, ⟨bp BK333⟩, ⟨bp BK340⟩, ⟨bl HB⟩⟩
  ·replace c14 := Bool.eq_false_iff.mpr c14
   subst c14
   rw [if_neg iN] at H
   have H' := aS H
   clear H
   have hnb19 := NB340_333.out
   have hnc19 := NB333_340.out
   obtain ⟨_, _, _, _, _, _, _, _, _, _⟩ := cf5 BK340.out
   obtain ⟨_, _, _, _, _, _, _, _, _, _, _, _, _, _, _, _⟩ := cf8 BK333.out
   go_wp2_with (first | (go_at_call 97; (with_reducible refine (ye.calls t335 a0_1 true _ A11.out).mono ?_); rintro e w' ⟨rfl, ⟨nd, rfl⟩⟩) | (go_at_call 97; (with_reducible refine (ye.calls t336 a0_2 false _ A13.out).mono ?_); rintro e w' ⟨rfl, ⟨nd, rfl⟩⟩))
   go_meet
   case rel => exact ⟨_, (true), rs, H', ⟨by first | omega | exact Nat.le_refl _⟩, ⟨bp BK333⟩, ⟨bp BK340⟩, ⟨bl HB⟩⟩
 case rest =>
  clear HC3
  obtain ⟨kq, x36_2, rfl, HA, HJ2, BK333, BK340, HB⟩ := hcut
  cases kq with
  | zero => exact absurd HA.out (by simp [zC.j0])
  | succ kj2 =>
   have H := HA.out
   clear HA
   simp only [zC.j0] at H
   by_cases c25 : x36_2 = true
   ·subst c25
    rw [if_pos rfl] at H
    obtain rfl := sI H
    go_wp2
    go_ret
    exact ⟨re, bl HB⟩
   replace c25 := Bool.eq_false_iff.mpr c25
   subst c25
   rw [if_neg iN] at H
   by_cases c26 : t338 = true; rotate_left
   ·replace c26 := Bool.eq_false_iff.mpr c26
    subst c26
    rw [if_neg iN] at H
    replace H := bA H
    obtain ⟨t345, A36, H⟩ := H
    obtain rfl := sI H
    have hnb37 := NB340_333.out
    have hnc37 := NB333_340.out
    obtain ⟨_, _, _, _, _, _, _, _, _, _⟩ := cf5 BK340.out
    obtain ⟨_, _, _, _, _, _, _, _, _, _, _, _, _, _, _, _⟩ := cf8 BK333.out
    go_wp2_with (first | ((with_reducible refine zi (f := 99) rfl ?_); refine gl 50 Tryz.func99 #[.agg #[.int .i64 a0_4, .bool a0_5, .slice A0_6 l0_6.length c0_6, .slice A0_7 l0_7.length c0_7]] ?_; (with_reducible refine (xd.calls a0_4 a0_5 _ _ l0_6 _ _ l0_7 t345 _ ?side1 ?side2 ?side3 ?side4 A36.out).mono ?_); (case side1 => exact cb HR0_6 HB); (case side2 => exact HC0_6.out); (case side3 => exact cb HR0_7 HB); (case side4 => exact HC0_7.out); rintro e w40 ⟨rfl, hb⟩; refine ⟨_, rfl, ?_⟩; replace BK333 := bb BK333 hb; replace BK340 := bb BK340 hb; replace HB := hB_ HB hb; clear hb))
    go_ret
    exact ⟨re, bl HB⟩
   subst c26
   rw [if_pos rfl] at H
   by_cases c27 : a0_4 = 0
   ·rw [if_pos c27] at H
    have c27b0 := bT c27
    have c27b1 := nF c27
    clear c27
    replace H := bA H
    obtain ⟨t344, A28, H⟩ := H
    obtain rfl := sI H
    have hnb29 := NB340_333.out
    have hnc29 := NB333_340.out
    obtain ⟨_, _, _, _, _, _, _, _, _, _⟩ := cf5 BK340.out
    obtain ⟨_, _, _, _, _, _, _, _, _, _, _, _, _, _, _, _⟩ := cf8 BK333.out
    go_wp2_with (first | (go_at_call 98; (with_reducible refine (yN.calls kj2 a0_4 a0_5 _ _ l0_6 _ _ l0_7 t344 _ ?side1 ?side2 ?side3 ?side4 A28.out).mono ?_); (case side1 => exact cb HR0_6 HB); (case side2 => exact HC0_6.out); (case side3 => exact cb HR0_7 HB); (case side4 => exact HC0_7.out); rintro e w32 ⟨rfl, hb⟩; replace BK333 := bb BK333 hb; replace BK340 := bb BK340 hb; replace HB := hB_ HB hb; clear hb))
    go_ret
    exact ⟨re, bl HB⟩
   ·rw [if_neg c27] at H
    have c27b0 := bF c27
    have c27b1 := nT c27
    obtain rfl := sI H
    have hnb33 := NB340_333.out
    have hnc33 := NB333_340.out
    obtain ⟨_, _, _, _, _, _, _, _, _, _⟩ := cf5 BK340.out
    obtain ⟨_, _, _, _, _, _, _, _, _, _, _, _, _, _, _, _⟩ := cf8 BK333.out
    go_wp2
    go_ret
    exact ⟨re, bl HB⟩
end
end
def z36 (l : List Int) : Bool := decide (l.length ≤ 128) && decide (l = [] ∨ l.getD (l.length - 1) 0 ≠ 0)
def z5m (i4 : Int) (i5 : Bool) (i6 i7 : List Int) : Bool :=
 if i4 = 0 then z36 i6 && (z36 i7 && (!i7.isEmpty && (!(i5 && i6.isEmpty) && decide (z2m i6 i7 = [1]))))
 else decide (i4 = 4 ∨ i4 = 11) && (!i5 && (i6.isEmpty && i7.isEmpty))
theorem z5A {l : List Int} (h : dOk l) (hg : z36 l = true) : yG l ∧ l.length ≤ 128 := by
 unfold z36 at hg
 rw [Bool.and_eq_true, decide_eq_true_eq, decide_eq_true_eq] at hg
 refine ⟨⟨h, fun hn => ?_⟩, hg.1⟩
 have hl := List.length_pos_iff.2 hn
 rw [z2S (n := l.length - 1) (by omega) hn]
 exact hg.2.resolve_left hn
theorem z2T {l : List Int} (hb : l.length ≤ 1000) (h0 : l ≠ []) : wrap64 ((l.length : Int) - 1) = ((l.length - 1 : Nat) : Int) ∧ 0 < l.length := by
 have hl := List.length_pos_iff.2 h0
 exact ⟨by rw [d64 (by omega) (by omega)]; omega, hl⟩
def z13 (l : List Int) : Int := if l.length > 512 then 3 else if l = [] ∨ l.getD (l.length - 1) 0 ≠ 0 then 0 else 5
theorem z8w {l : List Int} (hb : l.length ≤ 1000) : Ev (fun k => ym.f k [l]) (z13 l) := by
 have hend : Ev (fun k => ym.l0 k [l] 1 1) 0 := by
  refine Ev.step (f := fun _ => some 0) (fun k => ?_) (Ev.now _)
  simp only [ym.l0]
  rw [if_neg (by decide)]
 have e0 : z0y [l] 0 = l := rfl
 have c1 : (0 : Int) < (([l] : List (List Int)).length : Int) := by show (0 : Int) < 1; decide
 have e1 : wrap64 ((0 : Int) + 1) = 1 := by rw [d64 (by decide) (by decide)]; rfl
 show Ev (fun k => ym.l0 k [l] 1 0) (z13 l)
 unfold z13
 by_cases h1 : l.length > 512
 ·rw [if_pos h1]
  refine Ev.step (f := fun _ => some 3) (fun k => ?_) (Ev.now _)
  simp only [ym.l0, e0]
  rw [if_pos (by decide), if_pos (by decide), if_pos c1, if_pos (by omega)]
 rw [if_neg h1]
 by_cases h2 : l = []
 ·rw [if_pos (.inl h2)]
  subst h2
  refine Ev.step (fun k => ?_) hend
  simp only [ym.l0, e0, e1]
  rw [if_pos (by decide), if_pos (by decide), if_pos (by decide), if_neg (by decide), if_neg (by decide)]
 ·obtain ⟨e2, hl⟩ := z2T hb h2
  by_cases h3 : l.getD (l.length - 1) 0 = 0
  ·rw [if_neg (fun h => h.elim h2 (fun h => h h3))]
   refine Ev.step (f := fun _ => some 5) (fun k => ?_) (Ev.now _)
   simp only [ym.l0, e0, e2, xL]
   rw [if_pos (by decide), if_pos (by decide), if_pos c1, if_neg (by omega), if_pos (by omega), if_pos (by omega), if_pos (by omega), if_pos h3]
  ·rw [if_pos (.inr h3)]
   refine Ev.step (fun k => ?_) hend
   simp only [ym.l0, e0, e1, e2, xL]
   rw [if_pos (by decide), if_pos (by decide), if_pos c1, if_neg (by omega), if_pos (by omega), if_pos (by omega), if_pos (by omega), if_neg h3]
theorem z4M {l : List Int} (h : dOk l) (hf : z13 l = 0) : yG l := by
 unfold z13 at hf
 by_cases h1 : l.length > 512
 ·rw [if_pos h1] at hf; cases hf
 ·rw [if_neg h1] at hf
  by_cases h2 : l = [] ∨ l.getD (l.length - 1) 0 ≠ 0
  ·refine ⟨h, fun hn => ?_⟩
   have hl := List.length_pos_iff.2 hn
   rw [z2S (n := l.length - 1) (by omega) hn]
   exact h2.resolve_left hn
  ·rw [if_neg h2] at hf; cases hf
theorem z8H {l : List Int} (hb : l.length ≤ 1000) (h : dOk l) (hf : z13 l = 0) : Ev (fun k => xG.f k l) (decide (l.length > 128)) := by
 have hsz : ∃ z : Int, z1l.f l = some z ∧ (z > 4096 ↔ l.length > 128) := by
  unfold z1l.f
  by_cases h2 : l = []
  ·subst h2
   exact ⟨0, rfl, by decide⟩
  ·obtain ⟨e2, hl⟩ := z2T hb h2
   have ht := (z0b (z4M h hf) (n := l.length - 1) (by omega)).2
   have hg := zX h (l.length - 1)
   obtain ⟨m, hm, m1, m2⟩ := zaB (a := l.getD (l.length - 1) 0) (by omega) hg.2
   refine ⟨32 * ((l.length - 1 : Nat) : Int) + m, ?_, by omega⟩
   have c0 : ¬ (l.length : Int) = 0 := by omega
   have c1 : (0 : Int) ≤ ((l.length - 1 : Nat) : Int) := by omega
   have c2 : ((l.length - 1 : Nat) : Int) < (l.length : Int) := by omega
   have c3 : wrap64 (32 * ((l.length - 1 : Nat) : Int)) = 32 * ((l.length - 1 : Nat) : Int) := d64 (by omega) (by omega)
   have c4 : wrap64 (32 * ((l.length - 1 : Nat) : Int) + m) = 32 * ((l.length - 1 : Nat) : Int) + m := d64 (by omega) (by omega)
   rw [e2, if_neg c0, if_pos c1, if_pos c2, xL, hm, Option.bind_some, c3, c4]
 obtain ⟨z, hz, hzi⟩ := hsz
 have hB : Ev (fun k => z1D.f k l) (z, (0 : Int)) := by
  refine Ev.bind (f := fun _ t => if t = 0 then ((z1l.f l).bind fun t180 => (some (t180, (0 : Int)))) else (some ((0 : Int), t))) (z8w hb) ?_
  rw [hf]
  refine Ev.congr (f := fun _ => some (z, (0 : Int))) (fun k => ?_) (Ev.now _)
  rw [if_pos rfl, hz]
  rfl
 refine Ev.bind (f := fun _ t => if t.2 = 0 then (some (decide (t.1 > 4096))) else (some true)) hB ?_
 refine Ev.congr (f := fun _ => some (decide (l.length > 128))) (fun k => ?_) (Ev.now _)
 rw [if_pos rfl]
 congr 1
 exact decide_eq_decide.2 hzi
theorem z6Q {l : List Int} (hb : l.length ≤ 1000) : Ev (fun k => xH.f k l) (z13 l == 0) := Ev.bind (f := fun _ t => some (t == 0)) (z8w hb) (Ev.now _)
theorem z5B {l : List Int} : z36 l = ((z13 l == 0) && !decide (l.length > 128)) := by
 unfold z36 z13
 by_cases h1 : l.length > 512
 ·rw [if_pos h1, show decide (l.length ≤ 128) = false from decide_eq_false (by omega)]
  rfl
 ·rw [if_neg h1]
  by_cases h2 : l = [] ∨ l.getD (l.length - 1) 0 ≠ 0
  ·rw [if_pos h2, decide_eq_true h2, Bool.and_true]
   by_cases h3 : l.length ≤ 128
   ·rw [decide_eq_true h3, decide_eq_false (show ¬ l.length > 128 by omega)]
    rfl
   ·rw [decide_eq_false h3, decide_eq_true (show l.length > 128 by omega)]
    rfl
  ·rw [if_neg h2, decide_eq_false h2, Bool.and_false]
   rfl
theorem z8J (g : List Int) : (if (g.length : Int) = 1 then (if 0 < (g.length : Int) then (some ((rd g 0) == 1)) else (none)) else (some false)) = some (decide (g = [1])) := by
 by_cases h : (g.length : Int) = 1
 ·rw [if_pos h, if_pos (by omega)]
  obtain ⟨a, rfl⟩ := List.length_eq_one_iff.1 (show g.length = 1 by omega)
  congr 1
  show (a == 1) = decide ([a] = [1])
  by_cases ha : a = 1
  ·subst ha; rfl
  ·rw [decide_eq_false (by simpa using ha)]
   simpa using ha
 ·rw [if_neg h, decide_eq_false (fun h2 => h (by rw [h2]; rfl))]
theorem zad {x y : List Int} (hx : x.length ≤ 1000) (hy : y.length ≤ 1000) (fx : z13 x = 0) (fy : z13 y = 0) : Ev (fun k => ym.f k [x, y]) 0 := by
 have hend : Ev (fun k => ym.l0 k [x, y] 2 2) 0 := by
  refine Ev.step (f := fun _ => some 0) (fun k => ?_) (Ev.now _)
  simp only [ym.l0]
  rw [if_neg (by decide)]
 have key : ∀ (i : Nat) (l : List Int), i < 2 → z0y [x, y] (i : Int) = l → l.length ≤ 1000 → z13 l = 0 → Ev (fun k => ym.l0 k [x, y] 2 ((i + 1 : Nat) : Int)) 0 → Ev (fun k => ym.l0 k [x, y] 2 (i : Int)) 0 := by
  intro i l hi e0 hb hf hn
  have e1 : wrap64 ((i : Int) + 1) = ((i + 1 : Nat) : Int) := by rw [d64 (by omega) (by omega)]; omega
  have c0 : (i : Int) < 2 := by omega
  have c1 : (0 : Int) ≤ (i : Int) := by omega
  have c2 : (i : Int) < (([x, y] : List (List Int)).length : Int) := by show (i : Int) < 2; omega
  refine Ev.step (fun k => ?_) hn
  unfold z13 at hf
  by_cases h1 : l.length > 512
  ·rw [if_pos h1] at hf; cases hf
  ·rw [if_neg h1] at hf
   by_cases h2 : l = []
   ·subst h2
    simp only [ym.l0, e0, e1]
    rw [if_pos c0, if_pos c1, if_pos c2, if_neg (by decide), if_neg (by decide)]
   ·have h3 : l.getD (l.length - 1) 0 ≠ 0 := by
     intro h3
     rw [if_neg (fun h => h.elim h2 (fun h => h h3))] at hf
     cases hf
    obtain ⟨e2, hl⟩ := z2T hb h2
    simp only [ym.l0, e0, e1, e2, xL]
    rw [if_pos c0, if_pos c1, if_pos c2, if_neg (by omega), if_pos (by omega), if_pos (by omega), if_pos (by omega), if_neg h3]
 exact key 0 x (by decide) rfl hx fx (key 1 y (by decide) rfl hy fy hend)
theorem zbB {x y : List Int} (bx : x.length ≤ 1000) (by_ : y.length ≤ 1000) (hx : yG x) (hy : yG y) (fx : z13 x = 0) (fy : z13 y = 0) : Ev (fun k => z14.f k x y) (z2m x y, (0 : Int)) := by
 refine Ev.bind (f := fun _ t => if t = 0 then ((z2f.f x y).bind fun t187 => (some (t187, (0 : Int)))) else (some (([] : List Int), t))) (zad bx by_ fx fy) ?_
 refine Ev.congr (f := fun _ => some (z2m x y, (0 : Int))) (fun k => ?_) (Ev.now _)
 rw [if_pos rfl]
 unfold z2f.f
 rw [if_pos ⟨z2N.2 hx, z2N.2 hy, bx, by_⟩]
 rfl
theorem xV {l : List Int} : l.isEmpty = decide ((l.length : Int) = 0) := by
 cases l with
 | nil => rfl
 | cons a l => rw [decide_eq_false (by simp only [List.length_cons]; omega)]; rfl
theorem z7y (i4 : Int) (i5 : Bool) {i6 i7 : List Int} (b6 : i6.length ≤ 1000) (b7 : i7.length ≤ 1000) (h6 : dOk i6) (h7 : dOk i7) : Ev (fun k => z1f.f k i4 i5 i6 i7) (z5m i4 i5 i6 i7) := by
 unfold z1f.f z5m
 by_cases h0 : i4 = 0; rotate_left
 ·rw [if_neg h0]
  refine Ev.congr (fun k => if_neg h0) ?_
  have hfa : z0c.f i4 = some (decide (i4 = 4 ∨ i4 = 11)) := by
   unfold z0c.f
   by_cases a : i4 = 4
   ·rw [if_pos a, decide_eq_true (.inl a)]
   ·rw [if_neg a]
    congr 1
    by_cases b : i4 = 11
    ·rw [decide_eq_true (.inr b)]; simpa using b
    ·rw [decide_eq_false (fun h => h.elim a b)]; simpa using b
  refine Ev.congr (fun k => by rw [hfa, Option.bind_some]) ?_
  cases decide (i4 = 4 ∨ i4 = 11) with
  | false => exact Ev.congr (fun k => if_neg Bool.false_ne_true) (Ev.now _)
  | true =>
   refine Ev.congr (fun k => if_pos rfl) ?_
   cases i5 with
   | true => exact Ev.congr (fun k => if_pos rfl) (Ev.now _)
   | false =>
    refine Ev.congr (f := fun _ => some (true && (!false && (i6.isEmpty && i7.isEmpty)))) (fun k => ?_) (Ev.now _)
    rw [if_neg Bool.false_ne_true, d64 (by omega) (by omega)]
    congr 1
    cases i6 with
    | nil => cases i7 with
     | nil => rfl
     | cons b l7 => show ((((0 : Nat) : Int) + ((b :: l7).length : Int)) == 0) = false; rw [beq_eq_false_iff_ne]; simp only [List.length_cons]; omega
    | cons a l6 => show ((((a :: l6).length : Int) + (i7.length : Int)) == 0) = false; rw [beq_eq_false_iff_ne]; simp only [List.length_cons]; omega
 rw [if_pos h0]
 refine Ev.congr (fun k => if_pos h0) ?_
 refine Ev.bind (g := fun k => xH.f k i6) (z6Q b6) ?_
 rw [z5B, z5B]
 cases f6 : (z13 i6 == 0) with
 | false => exact Ev.congr (fun k => if_neg Bool.false_ne_true) (Ev.now _)
 | true =>
  refine Ev.congr (fun k => if_pos rfl) ?_
  refine Ev.bind (g := fun k => xH.f k i7) (z6Q b7) ?_
  cases f7 : (z13 i7 == 0) with
  | false => rw [Bool.false_and, Bool.false_and, Bool.and_false]; exact Ev.congr (fun k => if_neg Bool.false_ne_true) (Ev.now _)
  | true =>
   have g6 : z13 i6 = 0 := by simpa using f6
   have g7 : z13 i7 = 0 := by simpa using f7
   refine Ev.congr (fun k => if_pos rfl) ?_
   refine Ev.bind (g := fun k => xG.f k i6) (z8H b6 h6 g6) ?_
   cases l6 : decide (i6.length > 128) with
   | true => exact Ev.congr (fun k => if_pos rfl) (Ev.now _)
   | false =>
    refine Ev.congr (fun k => if_neg Bool.false_ne_true) ?_
    refine Ev.bind (g := fun k => xG.f k i7) (z8H b7 h7 g7) ?_
    cases l7 : decide (i7.length > 128) with
    | true => exact Ev.congr (fun k => if_pos rfl) (Ev.now _)
    | false =>
     refine Ev.congr (fun k => if_neg Bool.false_ne_true) ?_
     have hG := zbB b6 b7 (z4M h6 g6) (z4M h7 g7) g6 g7
     have hA : Ev (fun k => (z14.f k i6 i7).bind fun bt196 => (if (bt196.1.length : Int) = 1 then (if 0 < (bt196.1.length : Int) then (some ((rd bt196.1 0) == 1)) else (none)) else (some false))) (decide (z2m i6 i7 = [1])) := by
      refine Ev.bind (f := fun _ (bt196 : List Int × Int) => (if (bt196.1.length : Int) = 1 then (if 0 < (bt196.1.length : Int) then (some ((rd bt196.1 0) == 1)) else (none)) else (some false))) hG ?_
      exact Ev.congr (f := fun _ => some (decide (z2m i6 i7 = [1]))) (fun k => z8J _) (Ev.now _)
     by_cases e7 : (i7.length : Int) = 0
     ·rw [xV, decide_eq_true e7]
      exact Ev.congr (fun k => if_pos e7) (Ev.now _)
     ·rw [xV, decide_eq_false e7]
      refine Ev.congr (fun k => if_neg e7) ?_
      cases i5 with
      | false =>
       exact Ev.congr (fun k => if_neg Bool.false_ne_true) hA
      | true =>
       refine Ev.congr (fun k => if_pos rfl) ?_
       by_cases e6 : (i6.length : Int) = 0
       ·rw [xV, decide_eq_true e6]
        exact Ev.congr (fun k => if_pos e6) (Ev.now _)
       ·rw [xV, decide_eq_false e6]
        exact Ev.congr (fun k => if_neg e6) hA
theorem zcr {l : List Int} (hb : l.length ≤ 1000) : yu.f l = some (z36 l) := by
 unfold yu.f z36
 by_cases h1 : l.length ≤ 128
 ·rw [if_pos (by omega), decide_eq_true h1, Bool.true_and]
  by_cases h2 : l = []
  ·rw [decide_eq_true (.inl h2), h2]
   rfl
  ·obtain ⟨e2, hl⟩ := z2T hb h2
   rw [if_neg (by omega), e2, if_pos (by omega), if_pos (by omega), xL]
   congr 1
   by_cases h3 : l.getD (l.length - 1) 0 = 0
   ·rw [decide_eq_false (fun h => h.elim h2 (fun h => h h3)), h3]
    rfl
   ·rw [decide_eq_true (.inr h3)]
    simpa using h3
 ·rw [if_neg (by omega), decide_eq_false h1, Bool.false_and]
theorem z9m (i4 : Int) (i5 : Bool) {i6 i7 : List Int} (b6 : i6.length ≤ 1000) (b7 : i7.length ≤ 1000) (h6 : dOk i6) (h7 : dOk i7) : Ev (fun k => yN.f k i4 i5 i6 i7) (z5m i4 i5 i6 i7) := by
 unfold yN.f z5m
 rw [zcr b6, zcr b7]
 simp only [Option.bind_some]
 by_cases h0 : i4 = 0; rotate_left
 ·rw [if_neg h0]
  have hz : ((i7.length : Int) == 0) = i7.isEmpty := by rw [xV]; rfl
  have hend : ∀ d : Bool, d = true → Ev (fun (_ : Nat) => if i5 = true then some false else if (i6.length : Int) = 0 then some ((i7.length : Int) == 0) else some false) (d && (!i5 && (i6.isEmpty && i7.isEmpty))) := by
   intro d hd
   subst hd
   cases i5 with
   | true => exact Ev.congr (fun k => if_pos rfl) (Ev.now _)
   | false =>
    refine Ev.congr (fun k => if_neg Bool.false_ne_true) ?_
    by_cases e6 : (i6.length : Int) = 0
    ·rw [xV (l := i6), decide_eq_true e6, ← hz]
     exact Ev.congr (fun k => if_pos e6) (Ev.now _)
    ·rw [xV (l := i6), decide_eq_false e6]
     exact Ev.congr (fun k => if_neg e6) (Ev.now _)
  refine Ev.congr (fun k => if_neg h0) ?_
  by_cases a : i4 = 4
  ·refine Ev.congr (fun k => if_pos a) ?_
   exact hend _ (decide_eq_true (.inl a))
  ·refine Ev.congr (fun k => if_neg a) ?_
   by_cases b : i4 = 11
   ·refine Ev.congr (fun k => if_pos b) ?_
    exact hend _ (decide_eq_true (.inr b))
   ·rw [decide_eq_false (fun h => h.elim a b)]
    exact Ev.congr (fun k => if_neg b) (Ev.now _)
 rw [if_pos h0]
 refine Ev.congr (fun k => if_pos h0) ?_
 cases f6 : z36 i6 with
 | false => exact Ev.congr (fun k => if_neg Bool.false_ne_true) (Ev.now _)
 | true =>
  refine Ev.congr (fun k => if_pos rfl) ?_
  cases f7 : z36 i7 with
  | false => exact Ev.congr (fun k => if_neg Bool.false_ne_true) (Ev.now _)
  | true =>
   refine Ev.congr (fun k => if_pos rfl) ?_
   obtain ⟨c6, l6⟩ := z5A h6 f6
   obtain ⟨c7, l7⟩ := z5A h7 f7
   by_cases e7 : (i7.length : Int) = 0
   ·rw [xV (l := i7), decide_eq_true e7]
    exact Ev.congr (fun k => if_pos e7) (Ev.now _)
   have hG := zc2 128 (by decide) c6 c7 (fun h => e7 (by rw [h]; rfl)) l6 l7
   have hA : Ev (fun k => (zc.f k i6 i7).bind fun t328 => (if (t328.length : Int) = 1 then (if 0 < (t328.length : Int) then (some ((rd t328 0) == 1)) else (none)) else (some false))) (decide (z2m i6 i7 = [1])) := by
    refine Ev.bind (f := fun _ (t328 : List Int) => (if (t328.length : Int) = 1 then (if 0 < (t328.length : Int) then (some ((rd t328 0) == 1)) else (none)) else (some false))) hG ?_
    exact Ev.congr (f := fun _ => some (decide (z2m i6 i7 = [1]))) (fun k => z8J _) (Ev.now _)
   rw [xV (l := i7), decide_eq_false e7]
   refine Ev.congr (fun k => if_neg e7) ?_
   cases i5 with
   | false => exact Ev.congr (fun k => if_neg Bool.false_ne_true) hA
   | true =>
    refine Ev.congr (fun k => if_pos rfl) ?_
    by_cases e6 : (i6.length : Int) = 0
    ·rw [xV, decide_eq_true e6]
     exact Ev.congr (fun k => if_pos e6) (Ev.now _)
    ·rw [xV, decide_eq_false e6]
     exact Ev.congr (fun k => if_neg e6) hA
theorem z43 (i4 : Int) (i5 : Bool) (A6 : Option Addr) (c6 : Nat) (i6 : List Int) (A7 : Option Addr) (c7 : Nat) (i7 : List Int) (w : World) (hr6 : Kd.C (Kd.int .u32) w A6 i6.length i6) (hc6 : i6.length ≤ c6) (hr7 : Kd.C (Kd.int .u32) w A7 i7.length i7) (hc7 : i7.length ≤ c7)
 (b6 : i6.length ≤ 1000) (b7 : i7.length ≤ 1000) (h6 : dOk i6) (h7 : dOk i7) : Calls Tryz.prog 140 #[.agg #[.int .i64 i4, .bool i5, .slice A6 i6.length c6, .slice A7 i7.length c7]] w fun e w' => e = .returned (.bool (z5m i4 i5 i6 i7)) ∧ Below w.heap.size w w' := by
 obtain ⟨k, hk⟩ := (z7y i4 i5 b6 b7 h6 h7).rounds
 exact z1f.calls k i4 i5 A6 c6 i6 A7 c7 i7 _ w hr6 hc6 hr7 hc7 hk
theorem z0G (r1 : ByteArray) (r2 r3 r4 : Int) (r5 : Bool) (r6 r7 : Int) (w : World) :
 Calls Tryz.prog 42 #[.agg #[.string r1, .int .i64 r2, .int .i64 r3, .int .i64 r4, .bool r5, .int .i64 r6, .int .i64 r7]] w fun e w' => e = .returned (.agg #[.int .i64 r2, .int .i64 r3, .int .i64 r4]) ∧ Below w.heap.size w w' := by
 have hu72 := Tryz.underlying72
 go_enter Tryz.func42, Tryz.ntmps42
 go_wp2
 refine bodyPost_ret (by simp [results, Tryz.results42, go_sem]) rfl ⟨rfl, ?_⟩
 repeat (first | exact Below.refl _ _ | apply zl | apply zd | apply zD)
theorem yi (b : Nat) (w : World) :
 Calls Tryz.prog 43 #[.pointer (some ⟨b, 0, none⟩)] w fun e w' => e = .returned (.agg #[.pointer (some ⟨b, 1, none⟩), .pointer (some ⟨b, 2, none⟩), .pointer (some ⟨b, 3, none⟩)]) ∧ Below w.heap.size w w' := by
 have hu63 := Tryz.underlying63
 go_enter Tryz.func43, Tryz.ntmps43
 go_wp2
 go_region
 try go_wp2
 refine bodyPost_ret (by simp [results, Tryz.results43, go_sem]) rfl ⟨rfl, ?_⟩
 exact (zl (Below.refl _ _) _).drew
def z1T.f (_ : ByteArray) (a1 a2 a3 : Int) (_ : Bool) (_ _ : Int) : Option (Int × Int × Int) := some (a1, a2, a3)
theorem z1T.calls (a0 : ByteArray) (a1 a2 a3 : Int) (a4 : Bool) (a5 a6 : Int) (r1 r2 r3 : Int) (w : World) (h : z1T.f a0 a1 a2 a3 a4 a5 a6 = some (r1, r2, r3)) :
 Calls Tryz.prog 42 #[.agg #[.string a0, .int .i64 a1, .int .i64 a2, .int .i64 a3, .bool a4, .int .i64 a5, .int .i64 a6]] w fun e w' => e = .returned (.agg #[.int .i64 r1, .int .i64 r2, .int .i64 r3]) ∧ Below w.heap.size w w' := by
 unfold z1T.f at h
 simp only [Option.some.injEq, Prod.mk.injEq] at h
 obtain ⟨rfl, rfl, rfl⟩ := h
 exact z0G a0 a1 a2 a3 a4 a5 a6 w
def z2z.f : Option Int := some 0
end Go.Proofs.QP

