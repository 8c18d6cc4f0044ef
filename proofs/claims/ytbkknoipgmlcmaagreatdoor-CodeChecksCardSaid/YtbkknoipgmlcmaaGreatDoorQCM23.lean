import Derived.Test.YtbkknoipgmlcmaaGreatDoorQCM22
set_option linter.unusedVariables false
set_option linter.unusedSimpArgs false
set_option maxHeartbeats 8000000
set_option maxRecDepth 100000
namespace Go.Proofs.YtbkknoipgmlcmaaGreatDoor.P
open Go.RowKit Go.Proofs.YtbkknoipgmlcmaaGreatDoorW.PrintWords Go.Proofs.YtbkknoipgmlcmaaGreatDoorW.PrintLast Go.Proofs.YtbkknoipgmlcmaaGreatDoorW.PrintMore
open Go.Proofs.FX
attribute [local go_sem] cell_twice le_add_cast
attribute [local go_sem] max2_int min2_int max_two min_two max_three min_three max_four min_four
def nat_Gcd.f (k : Nat) (l0 : List Int) (l1 : List Int) : Option (List Int × Int) := (nat_form.f k (([l0, l1] : List (List Int)))).bind fun t186 => (if t186 = 0 then ((nat_gcd.f l0 l1).bind fun t187 => (some (t187, 0))) else (some (([] : List Int), t186)))
theorem nat_Gcd.calls (k : Nat) (P0_ : Nat → Prop) (A0 : Option Addr) (c0 : Nat) (l0 : List Int) (P1_ : Nat → Prop) (A1 : Option Addr) (c1 : Nat) (l1 : List Int) (r1 : List Int) (r2 : Int) (w : World) (hs0 : Kd.V (Kd.int .u32) 145 w w.heap.size (fun k_ => P0_ k_) (.slice A0 l0.length c0) l0) (hs1 : Kd.V (Kd.int .u32) 145 w w.heap.size (fun k_ => P1_ k_) (.slice A1 l1.length c1) l1) (h : nat_Gcd.f k l0 l1 = some (r1, r2)) :
 Calls Tryz.prog 178 #[.slice A0 l0.length c0, .slice A1 l1.length c1] w fun e w' => ∃ v0_ : Value, e = .returned (.tuple #[v0_, .int .i64 r2]) ∧ Kd.R (Kd.int .u32) 145 w' w.heap.size (fun k_ => (w.heap.size ≤ k_)) v0_ r1 ∧ Below w.heap.size w w' := by
 have HO0 := aS (show Kd.V (Kd.int .u32) 145 w w.heap.size (fun k_ => ((P0_ k_ ∨ P1_ k_) ∨ w.heap.size ≤ k_)) (.slice A0 l0.length c0) l0 from Kd.V_mono hs0 (fun k_ hk => .inl (.inl hk)))
 have HO1 := aS (show Kd.V (Kd.int .u32) 145 w w.heap.size (fun k_ => ((P0_ k_ ∨ P1_ k_) ∨ w.heap.size ≤ k_)) (.slice A1 l1.length c1) l1 from Kd.V_mono hs1 (fun k_ hk => .inl (.inr hk)))
 have HB := aS (Below.refl w.heap.size w)
 have H := h
 unfold nat_Gcd.f at H
 clear h
 obtain ⟨y183, hy183⟩ : ∃ y_ : List (List Int), y_ = (([l0, l1] : List (List Int))) := ⟨_, rfl⟩
 first | replace H := bsB H hy183 | rw [← hy183] at H
 have Ny183 := aS hy183
 clear hy183
 replace H := bS H
 obtain ⟨t186, A30, H⟩ := H
 (try dsimp only at H)
 have A3 := aS A30
 clear A30
 by_cases c4 : t186 = 0
 focus
  rw [if_pos c4] at H
  have c4b0 := bT c4
  have c4b1 := nF c4
  clear c4
  replace H := bS H
  obtain ⟨t187, A50, H⟩ := H
  (try dsimp only at H)
  have A5 := aS A50
  clear A50
  simp only [Option.some.injEq, Prod.mk.injEq] at H
  obtain ⟨rfl, rfl⟩ := H
 rotate_left 1
 focus
  rw [if_neg c4] at H
  have c4b0 := bF c4
  have c4b1 := nT c4
  simp only [Option.some.injEq, Prod.mk.injEq] at H
  obtain ⟨rfl, rfl⟩ := H
 rotate_left 1
 all_goals (go_enter Tryz.func178, Tryz.ntmps178)
 all_goals (go_wp2_with (first | ((with_reducible refine gate_dst (N := 9) rfl ?_); refine Kd.N_lit (Kd.slice 145 (Kd.int .u32)) _ 59 ?hg (N' := 9) ?hd (xs := ([l0, l1] : List (List Int))) (inner := [.slice A0 l0.length c0, .slice A1 l1.length c1]) (ok := (fun k_ => ((P0_ k_ ∨ P1_ k_) ∨ w.heap.size ≤ k_))) (okp := (fun k_ => ((P0_ k_ ∨ P1_ k_) ∨ w.heap.size ≤ k_))) ?hr ?hp (fun _ hk => hk) ((show ∀ k_, w.heap.size ≤ k_ → (fun k_ => ((P0_ k_ ∨ P1_ k_) ∨ w.heap.size ≤ k_)) k_ from fun k_ hk => (.inr (Nat.le_trans (below_size (bl HB)) hk))) _ (Nat.le_refl _)) (Below.refl _ _) (Nat.le_refl _) (by simp) ?_; (case hd => rfl); (case hg => rfl); (case hr => first | (go_simp; done) | (go_simp; rfl)); (case hp => exact (Reps.one (show Kd.FK (Kd.slice 145 (Kd.int .u32)) _ _ l0 [.slice A0 l0.length c0] from (Kd.FK_slice_mk (Kd.V_reads' (Kd.V_mono (ok' := (fun k_ => ((P0_ k_ ∨ P1_ k_) ∨ w.heap.size ≤ k_))) (HO0.out) (fun k_ hk => hk))).2.1 (Kd.V_F (Kd.V_mono (ok' := (fun k_ => ((P0_ k_ ∨ P1_ k_) ∨ w.heap.size ≤ k_))) (HO0.out) (fun k_ hk => hk))))) (Reps.one (show Kd.FK (Kd.slice 145 (Kd.int .u32)) _ _ l1 [.slice A1 l1.length c1] from (Kd.FK_slice_mk (Kd.V_reads' (Kd.V_mono (ok' := (fun k_ => ((P0_ k_ ∨ P1_ k_) ∨ w.heap.size ≤ k_))) (HO1.out) (fun k_ hk => hk))).2.1 (Kd.V_F (Kd.V_mono (ok' := (fun k_ => ((P0_ k_ ∨ P1_ k_) ∨ w.heap.size ≤ k_))) (HO1.out) (fun k_ hk => hk))))) (Reps.none _ _)))); intro v184 wq1 ho7 hb hg_ hnew_; clear hg_ hnew_; (first | rw [← Ny183.out] at ho7 | (simp only [Int.reduceToNat] at ho7; rw [← Ny183.out] at ho7)); replace HO0 := aS (Kd.V_elder' (by exact vA HO0.out) (Kd.N_base ho7) hb); replace HO1 := aS (Kd.V_elder' (by exact vA HO1.out) (Kd.N_base ho7) hb); have HO185 := aS (Kd.N_lower ho7 (below_size (bl HB))); replace HB := aS (bs_ (bl HB) hb); clear hb ho7; obtain ⟨Aoq1, coq1, eoq1⟩ := Kd.N_slice HO185.out; subst eoq1) | ((with_reducible refine gate_callee (f := 188) rfl ?_); refine gl 10 Tryz.func188 #[.slice Aoq1 y183.length coq1] ?_; (with_reducible refine (nat_form.calls k _ _ y183 t186 _ ?side1 ?side2 A3.out).mono ?_); (case side1 => repeat (first | exact (Kd.N_reads' HO185.out).2.2 | (with_reducible refine Kd.C_alloc ?_ _) | (with_reducible refine Kd.C_drewN ?_ _) | (with_reducible refine Kd.C_drew ?_))); (case side2 => exact (Kd.N_reads' HO185.out).2.1); rintro e w' ⟨rfl, ⟨nd, rfl⟩⟩; refine ⟨_, rfl, ?_⟩) | ((with_reducible refine gate_callee (f := 212) rfl ?_); refine gl 16 Tryz.func212 #[.slice A0 l0.length c0, .slice A1 l1.length c1] ?_; (with_reducible refine (nat_gcd.calls _ _ l0 _ _ l1 t187 _ ?side1 ?side2 ?side3 ?side4 A5.out).mono ?_); (case side1 => repeat (first | exact (Kd.V_reads' HO0.out).2.2 | (with_reducible refine Kd.C_alloc ?_ _) | (with_reducible refine Kd.C_drewN ?_ _) | (with_reducible refine Kd.C_drew ?_))); (case side2 => exact (Kd.V_reads' HO0.out).2.1); (case side3 => repeat (first | exact (Kd.V_reads' HO1.out).2.2 | (with_reducible refine Kd.C_alloc ?_ _) | (with_reducible refine Kd.C_drewN ?_ _) | (with_reducible refine Kd.C_drew ?_))); (case side4 => exact (Kd.V_reads' HO1.out).2.1); rintro e wq2 ⟨v188, rfl, ho0, hb⟩; refine ⟨_, rfl, ?_⟩; replace HO0 := aS (Kd.V_elder' (by exact vA HO0.out) (Kd.R_base ho0) hb); replace HO1 := aS (Kd.V_elder' (by exact vA HO1.out) (Kd.R_base ho0) hb); replace HO185 := aS (Kd.N_elder' (by exact nA HO185.out) (Kd.R_base ho0) hb); have HO189 := aS (Kd.R_lower (Kd.R_newM (M := fun k_ => (w.heap.size ≤ k_)) ho0 (below_size (bl HB)) (fun k_ h_ => h_)) (below_size (bl HB))); replace HB := aS (bs_ (bl HB) hb); clear hb ho0) | ((with_reducible refine gate_dst (N := 9) rfl ?_); refine Kd.N_lit (Kd.slice 145 (Kd.int .u32)) _ 59 ?hg (N' := 9) ?hd (xs := ([l0, l1] : List (List Int))) (inner := [.slice A0 l0.length c0, .slice A1 l1.length c1]) (ok := (fun k_ => ((P0_ k_ ∨ P1_ k_) ∨ w.heap.size ≤ k_))) (okp := (fun k_ => ((P0_ k_ ∨ P1_ k_) ∨ w.heap.size ≤ k_))) ?hr ?hp (fun _ hk => hk) ((show ∀ k_, w.heap.size ≤ k_ → (fun k_ => ((P0_ k_ ∨ P1_ k_) ∨ w.heap.size ≤ k_)) k_ from fun k_ hk => (.inr (Nat.le_trans (below_size (bl HB)) hk))) _ (Nat.le_refl _)) (Below.refl _ _) (Nat.le_refl _) (by simp) ?_; (case hd => rfl); (case hg => rfl); (case hr => first | (go_simp; done) | (go_simp; rfl)); (case hp => exact (Reps.one (show Kd.FK (Kd.slice 145 (Kd.int .u32)) _ _ l0 [.slice A0 l0.length c0] from (Kd.FK_slice_mk (Kd.V_reads' (Kd.V_mono (ok' := (fun k_ => ((P0_ k_ ∨ P1_ k_) ∨ w.heap.size ≤ k_))) (HO0.out) (fun k_ hk => hk))).2.1 (Kd.V_F (Kd.V_mono (ok' := (fun k_ => ((P0_ k_ ∨ P1_ k_) ∨ w.heap.size ≤ k_))) (HO0.out) (fun k_ hk => hk))))) (Reps.one (show Kd.FK (Kd.slice 145 (Kd.int .u32)) _ _ l1 [.slice A1 l1.length c1] from (Kd.FK_slice_mk (Kd.V_reads' (Kd.V_mono (ok' := (fun k_ => ((P0_ k_ ∨ P1_ k_) ∨ w.heap.size ≤ k_))) (HO1.out) (fun k_ hk => hk))).2.1 (Kd.V_F (Kd.V_mono (ok' := (fun k_ => ((P0_ k_ ∨ P1_ k_) ∨ w.heap.size ≤ k_))) (HO1.out) (fun k_ hk => hk))))) (Reps.none _ _)))); intro v184 wq1 ho11 hb hg_ hnew_; clear hg_ hnew_; (first | rw [← Ny183.out] at ho11 | (simp only [Int.reduceToNat] at ho11; rw [← Ny183.out] at ho11)); replace HO0 := aS (Kd.V_elder' (by exact vA HO0.out) (Kd.N_base ho11) hb); replace HO1 := aS (Kd.V_elder' (by exact vA HO1.out) (Kd.N_base ho11) hb); have HO185 := aS (Kd.N_lower ho11 (below_size (bl HB))); replace HB := aS (bs_ (bl HB) hb); clear hb ho11; obtain ⟨Aoq1, coq1, eoq1⟩ := Kd.N_slice HO185.out; subst eoq1)))
 ·go_ret2
  exact ⟨_, re, by exact rA (Kd.R_mono HO189.out (fun _ hk => hk.1)), bl HB⟩
 ·go_ret2
  exact ⟨_, re, by first | exact Kd.R_nil _ _ _ _ _ | exact Kd.N_nil _ _ _ _ _ | exact Kd.V_nil _ _ _ _ _ | exact Kd.Q_nil _ _ _ _ _ | exact Kd.S_nil _ _ _ _ _, bl HB⟩
def frac_IsRat.f (k : Nat) (a0_0 : Int) (a0_1 : Bool) (l0_2 : List Int) (l0_3 : List Int) : Option (Bool) := if a0_0 = 0 then ((nat_IsNat.f k l0_2).bind fun t192 => (if t192 = true then ((nat_IsNat.f k l0_3).bind fun t193 => (if t193 = true then ((frac_long.f k l0_2).bind fun t194 => (if t194 = true then (some false) else ((frac_long.f k l0_3).bind fun t195 => (if t195 = true then (some false) else (if (l0_3.length : Int) = 0 then (some false) else (if a0_1 = true then (if (l0_2.length : Int) = 0 then (some false) else ((nat_Gcd.f k l0_2 l0_3).bind fun bt196 => (if (bt196.1.length : Int) = 1 then (if 0 < (bt196.1.length : Int) then (some ((rd bt196.1 0) == 1)) else (none)) else (some false)))) else ((nat_Gcd.f k l0_2 l0_3).bind fun bt201 => (if (bt201.1.length : Int) = 1 then (if 0 < (bt201.1.length : Int) then (some ((rd bt201.1 0) == 1)) else (none)) else (some false))))))))) else (some false))) else (some false))) else ((frac_isFault.f a0_0).bind fun t191 => (if t191 = true then (if a0_1 = true then (some false) else (some ((wrap64 ((l0_2.length : Int) + (l0_3.length : Int))) == 0))) else (some false)))
theorem frac_IsRat.calls (k : Nat) (a0_0 : Int) (a0_1 : Bool) (A0_2 : Option Addr) (c0_2 : Nat) (l0_2 : List Int) (A0_3 : Option Addr) (c0_3 : Nat) (l0_3 : List Int) (r : Bool) (w : World) (hr0_2 : Kd.C (Kd.int .u32) w A0_2 l0_2.length l0_2) (hc0_2 : l0_2.length ≤ c0_2) (hr0_3 : Kd.C (Kd.int .u32) w A0_3 l0_3.length l0_3) (hc0_3 : l0_3.length ≤ c0_3) (h : frac_IsRat.f k a0_0 a0_1 l0_2 l0_3 = some r) :
 Calls Tryz.prog 140 #[.agg #[.int .i64 a0_0, .bool a0_1, .slice A0_2 l0_2.length c0_2, .slice A0_3 l0_3.length c0_3]] w fun e w' => e = .returned (.bool r) ∧ Below w.heap.size w w' := by
 have hu61 := Tryz.underlying61
 have HR0_2 := aS hr0_2
 have HC0_2 := aS hc0_2
 clear hr0_2 hc0_2
 have HR0_3 := aS hr0_3
 have HC0_3 := aS hc0_3
 clear hr0_3 hc0_3
 have HB := aS (Below.refl w.heap.size w)
 have H := h
 unfold frac_IsRat.f at H
 clear h
 by_cases c2 : a0_0 = 0
 focus
  rw [if_pos c2] at H
  have c2b0 := bT c2
  have c2b1 := nF c2
  clear c2
  replace H := bS H
  obtain ⟨t192, A30, H⟩ := H
  (try dsimp only at H)
  have A3 := aS A30
  clear A30
  by_cases c4 : t192 = true
  focus
   subst c4
   rw [if_pos rfl] at H
   replace H := bS H
   obtain ⟨t193, A50, H⟩ := H
   (try dsimp only at H)
   have A5 := aS A50
   clear A50
   by_cases c6 : t193 = true
   focus
    subst c6
    rw [if_pos rfl] at H
    replace H := bS H
    obtain ⟨t194, A70, H⟩ := H
    (try dsimp only at H)
    have A7 := aS A70
    clear A70
    by_cases c8 : t194 = true
    focus
     subst c8
     rw [if_pos rfl] at H
     obtain rfl := sI H
    rotate_left 1
    focus
     replace c8 := Bool.eq_false_iff.mpr c8
     subst c8
     rw [if_neg iN] at H
     replace H := bS H
     obtain ⟨t195, A160, H⟩ := H
     (try dsimp only at H)
     have A16 := aS A160
     clear A160
     by_cases c17 : t195 = true
     focus
      subst c17
      rw [if_pos rfl] at H
      obtain rfl := sI H
     rotate_left 1
     focus
      replace c17 := Bool.eq_false_iff.mpr c17
      subst c17
      rw [if_neg iN] at H
      by_cases c27 : (l0_3.length : Int) = 0
      focus
       rw [if_pos c27] at H
       have c27b0 := bT c27
       have c27b1 := nF c27
       clear c27
       obtain rfl := sI H
      rotate_left 1
      focus
       rw [if_neg c27] at H
       have c27b0 := bF c27
       have c27b1 := nT c27
       have c27b2 : ¬ (l0_3 = []) := fun h_ => c27 (by rw [h_]; rfl)
       by_cases c38 : a0_1 = true
       focus
        subst c38
        rw [if_pos rfl] at H
        by_cases c39 : (l0_2.length : Int) = 0
        focus
         rw [if_pos c39] at H
         have c39b0 := bT c39
         have c39b1 := nF c39
         clear c39
         obtain rfl := sI H
        rotate_left 1
        focus
         rw [if_neg c39] at H
         have c39b0 := bF c39
         have c39b1 := nT c39
         have c39b2 : ¬ (l0_2 = []) := fun h_ => c39 (by rw [h_]; rfl)
         replace H := bS H
         obtain ⟨⟨t196, t199⟩, A500, H⟩ := H
         (try dsimp only at H)
         have A50 := aS A500
         clear A500
         by_cases c51 : (t196.length : Int) = 1
         focus
          rw [if_pos c51] at H
          have c51b0 := bT c51
          have c51b1 := nF c51
          clear c51
          by_cases c52 : 0 < (t196.length : Int)
          focus
           rw [if_pos c52] at H
           have c52b0 := dT c52
           have c52b1 : decide (0 < t196.length) = true := dT (by omega)
           clear c52
           obtain rfl := sI H
          rotate_left 1
          focus
           rw [if_neg c52] at H
           cases H
         rotate_left 1
         focus
          rw [if_neg c51] at H
          have c51b0 := bF c51
          have c51b1 := nT c51
          obtain rfl := sI H
         rotate_left 1
        rotate_left 2
       rotate_left 3
       focus
        replace c38 := Bool.eq_false_iff.mpr c38
        subst c38
        rw [if_neg iN] at H
        replace H := bS H
        obtain ⟨⟨t201, t204⟩, A770, H⟩ := H
        (try dsimp only at H)
        have A77 := aS A770
        clear A770
        by_cases c78 : (t201.length : Int) = 1
        focus
         rw [if_pos c78] at H
         have c78b0 := bT c78
         have c78b1 := nF c78
         clear c78
         by_cases c79 : 0 < (t201.length : Int)
         focus
          rw [if_pos c79] at H
          have c79b0 := dT c79
          have c79b1 : decide (0 < t201.length) = true := dT (by omega)
          clear c79
          obtain rfl := sI H
         rotate_left 1
         focus
          rw [if_neg c79] at H
          cases H
        rotate_left 1
        focus
         rw [if_neg c78] at H
         have c78b0 := bF c78
         have c78b1 := nT c78
         obtain rfl := sI H
        rotate_left 1
       rotate_left 2
      rotate_left 5
     rotate_left 6
    rotate_left 7
   rotate_left 8
   focus
    replace c6 := Bool.eq_false_iff.mpr c6
    subst c6
    rw [if_neg iN] at H
    obtain rfl := sI H
   rotate_left 1
  rotate_left 9
  focus
   replace c4 := Bool.eq_false_iff.mpr c4
   subst c4
   rw [if_neg iN] at H
   obtain rfl := sI H
  rotate_left 1
 rotate_left 10
 focus
  rw [if_neg c2] at H
  have c2b0 := bF c2
  have c2b1 := nT c2
  replace H := bS H
  obtain ⟨t191, A1120, H⟩ := H
  (try dsimp only at H)
  have A112 := aS A1120
  clear A1120
  by_cases c113 : t191 = true
  focus
   subst c113
   rw [if_pos rfl] at H
   by_cases c114 : a0_1 = true
   focus
    subst c114
    rw [if_pos rfl] at H
    obtain rfl := sI H
   rotate_left 1
   focus
    replace c114 := Bool.eq_false_iff.mpr c114
    subst c114
    rw [if_neg iN] at H
    obtain rfl := sI H
   rotate_left 1
  rotate_left 2
  focus
   replace c113 := Bool.eq_false_iff.mpr c113
   subst c113
   rw [if_neg iN] at H
   obtain rfl := sI H
  rotate_left 1
 rotate_left 3
 all_goals (go_enter Tryz.func140, Tryz.ntmps140)
 all_goals (go_wp2_with (first | ((with_reducible refine gate_dst (N := 1) rfl ?_); (try (refine gate_guard (by rfl) ?_; dsimp only)); refine bx (N := 1) (cs := #[.int .i64 a0_0, .bool true, .slice A0_2 l0_2.length c0_2, .slice A0_3 l0_3.length c0_3]) (t := 61) ?_; intro gb190 hg wq1 hbox hb; have BK190 := aS (hbox); have GW190 := (gz hg HB : Aside0 (w.heap.size ≤ gb190)); have GE190 := (gz hg HB : Aside0 (w.heap.size ≤ gb190)); replace HB := aS (bs_ (bl HB) hb); clear hb hbox hg; obtain ⟨_, _, _, _, _, _, _, _⟩ := cf4 BK190.out) | ((with_reducible refine gate_callee (f := 176) rfl ?_); refine gl 28 Tryz.func176 #[.slice A0_2 l0_2.length c0_2] ?_; (with_reducible refine (nat_IsNat.calls k (fun k_ => k_ < w.heap.size) _ _ l0_2 true _ ?side1 A3.out).mono ?_); (case side1 => exact Kd.V_mk HC0_2.out (Kd.F_below (Kd.C_F (Kd.heap_int .u32) HR0_2.out) (bl HB))); rintro e wq2 ⟨rfl, hb⟩; refine ⟨_, rfl, ?_⟩; replace BK190 := aS (blk_below (bj BK190) hb); replace HB := aS (bs_ (bl HB) hb); clear hb; obtain ⟨_, _, _, _, _, _, _, _⟩ := cf4 BK190.out) | (go_at_call 176; (with_reducible refine (nat_IsNat.calls k (fun k_ => k_ < w.heap.size) _ _ l0_3 true _ ?side1 A5.out).mono ?_); (case side1 => exact Kd.V_mk HC0_3.out (Kd.F_below (Kd.C_F (Kd.heap_int .u32) HR0_3.out) (bl HB))); rintro e wq3 ⟨rfl, hb⟩; replace BK190 := aS (blk_below (bj BK190) hb); replace HB := aS (bs_ (bl HB) hb); clear hb; obtain ⟨_, _, _, _, _, _, _, _⟩ := cf4 BK190.out) | (go_at_call 177; (with_reducible refine (frac_long.calls k _ _ l0_2 false _ ?side1 ?side2 A7.out).mono ?_); (case side1 => exact cb HR0_2 HB); (case side2 => exact HC0_2.out); rintro e wq4 ⟨rfl, hb⟩; replace BK190 := aS (blk_below (bj BK190) hb); replace HB := aS (bs_ (bl HB) hb); clear hb; obtain ⟨_, _, _, _, _, _, _, _⟩ := cf4 BK190.out) | (go_at_call 177; (with_reducible refine (frac_long.calls k _ _ l0_3 false _ ?side1 ?side2 A16.out).mono ?_); (case side1 => exact cb HR0_3 HB); (case side2 => exact HC0_3.out); rintro e wq5 ⟨rfl, hb⟩; replace BK190 := aS (blk_below (bj BK190) hb); replace HB := aS (bs_ (bl HB) hb); clear hb; obtain ⟨_, _, _, _, _, _, _, _⟩ := cf4 BK190.out) | ((with_reducible refine gate_callee (f := 178) rfl ?_); refine gl 67 Tryz.func178 #[.slice A0_2 l0_2.length c0_2, .slice A0_3 l0_3.length c0_3] ?_; (with_reducible refine (nat_Gcd.calls k (fun k_ => k_ < w.heap.size) _ _ l0_2 (fun k_ => k_ < w.heap.size) _ _ l0_3 t196 t199 _ ?side1 ?side2 A50.out).mono ?_); (case side1 => exact Kd.V_mk HC0_2.out (Kd.F_below (Kd.C_F (Kd.heap_int .u32) HR0_2.out) (bl HB))); (case side2 => exact Kd.V_mk HC0_3.out (Kd.F_below (Kd.C_F (Kd.heap_int .u32) HR0_3.out) (bl HB))); rintro e wq6 ⟨v197, rfl, ho0, hb⟩; refine ⟨_, rfl, ?_⟩; have HO198 := aS (Kd.R_lower (Kd.R_mono (ok' := fun k_ => True) ho0 (fun _ hk_ => trivial)) (below_size (bl HB))); replace BK190 := aS (blk_below (bj BK190) hb); replace HB := aS (bs_ (bl HB) hb); clear hb ho0; obtain ⟨Aoq1, coq1, eoq1⟩ := Kd.R_slice HO198.out; subst eoq1; have p200 : 0 ≤ (0 : Int) := (by omega); have q200 : 0 < (t196.length : Int) := oa; obtain ⟨ad200, e200, hx200_0⟩ := Kd.at_int (Kd.R_reads' HO198.out).2.2 0 p200 q200; cases e200; have qi200 : (0 < t196.length) = True := eq_true (by omega); (try rw [show ((0 : Int)).toNat = 0 from rfl] at hx200_0); (try rw [Addr.add_zero'] at hx200_0); replace p200 := eq_true p200; replace q200 := eq_true q200) | ((with_reducible refine gate_callee (f := 178) rfl ?_); refine gl 67 Tryz.func178 #[.slice A0_2 l0_2.length c0_2, .slice A0_3 l0_3.length c0_3] ?_; (with_reducible refine (nat_Gcd.calls k (fun k_ => k_ < w.heap.size) _ _ l0_2 (fun k_ => k_ < w.heap.size) _ _ l0_3 t196 t199 _ ?side1 ?side2 A50.out).mono ?_); (case side1 => exact Kd.V_mk HC0_2.out (Kd.F_below (Kd.C_F (Kd.heap_int .u32) HR0_2.out) (bl HB))); (case side2 => exact Kd.V_mk HC0_3.out (Kd.F_below (Kd.C_F (Kd.heap_int .u32) HR0_3.out) (bl HB))); rintro e wq6 ⟨v197, rfl, ho0, hb⟩; refine ⟨_, rfl, ?_⟩; have HO198 := aS (Kd.R_lower (Kd.R_mono (ok' := fun k_ => True) ho0 (fun _ hk_ => trivial)) (below_size (bl HB))); replace BK190 := aS (blk_below (bj BK190) hb); replace HB := aS (bs_ (bl HB) hb); clear hb ho0; obtain ⟨Aoq1, coq1, eoq1⟩ := Kd.R_slice HO198.out; subst eoq1) | ((with_reducible refine gate_dst (N := 1) rfl ?_); (try (refine gate_guard (by rfl) ?_; dsimp only)); refine bx (N := 1) (cs := #[.int .i64 a0_0, .bool false, .slice A0_2 l0_2.length c0_2, .slice A0_3 l0_3.length c0_3]) (t := 61) ?_; intro gb190 hg wq1 hbox hb; have BK190 := aS (hbox); have GW190 := (gz hg HB : Aside0 (w.heap.size ≤ gb190)); have GE190 := (gz hg HB : Aside0 (w.heap.size ≤ gb190)); replace HB := aS (bs_ (bl HB) hb); clear hb hbox hg; obtain ⟨_, _, _, _, _, _, _, _⟩ := cf4 BK190.out) | ((with_reducible refine gate_callee (f := 176) rfl ?_); refine gl 28 Tryz.func176 #[.slice A0_2 l0_2.length c0_2] ?_; (with_reducible refine (nat_IsNat.calls k (fun k_ => k_ < w.heap.size) _ _ l0_2 true _ ?side1 A3.out).mono ?_); (case side1 => exact Kd.V_mk HC0_2.out (Kd.F_below (Kd.C_F (Kd.heap_int .u32) HR0_2.out) (bl HB))); rintro e wq2 ⟨rfl, hb⟩; refine ⟨_, rfl, ?_⟩; replace BK190 := aS (blk_below (bj BK190) hb); replace HB := aS (bs_ (bl HB) hb); clear hb; obtain ⟨_, _, _, _, _, _, _, _⟩ := cf4 BK190.out) | (go_at_call 176; (with_reducible refine (nat_IsNat.calls k (fun k_ => k_ < w.heap.size) _ _ l0_3 true _ ?side1 A5.out).mono ?_); (case side1 => exact Kd.V_mk HC0_3.out (Kd.F_below (Kd.C_F (Kd.heap_int .u32) HR0_3.out) (bl HB))); rintro e wq3 ⟨rfl, hb⟩; replace BK190 := aS (blk_below (bj BK190) hb); replace HB := aS (bs_ (bl HB) hb); clear hb; obtain ⟨_, _, _, _, _, _, _, _⟩ := cf4 BK190.out) | (go_at_call 177; (with_reducible refine (frac_long.calls k _ _ l0_2 false _ ?side1 ?side2 A7.out).mono ?_); (case side1 => exact cb HR0_2 HB); (case side2 => exact HC0_2.out); rintro e wq4 ⟨rfl, hb⟩; replace BK190 := aS (blk_below (bj BK190) hb); replace HB := aS (bs_ (bl HB) hb); clear hb; obtain ⟨_, _, _, _, _, _, _, _⟩ := cf4 BK190.out) | (go_at_call 177; (with_reducible refine (frac_long.calls k _ _ l0_3 false _ ?side1 ?side2 A16.out).mono ?_); (case side1 => exact cb HR0_3 HB); (case side2 => exact HC0_3.out); rintro e wq5 ⟨rfl, hb⟩; replace BK190 := aS (blk_below (bj BK190) hb); replace HB := aS (bs_ (bl HB) hb); clear hb; obtain ⟨_, _, _, _, _, _, _, _⟩ := cf4 BK190.out) | ((with_reducible refine gate_callee (f := 178) rfl ?_); refine gl 67 Tryz.func178 #[.slice A0_2 l0_2.length c0_2, .slice A0_3 l0_3.length c0_3] ?_; (with_reducible refine (nat_Gcd.calls k (fun k_ => k_ < w.heap.size) _ _ l0_2 (fun k_ => k_ < w.heap.size) _ _ l0_3 t201 t204 _ ?side1 ?side2 A77.out).mono ?_); (case side1 => exact Kd.V_mk HC0_2.out (Kd.F_below (Kd.C_F (Kd.heap_int .u32) HR0_2.out) (bl HB))); (case side2 => exact Kd.V_mk HC0_3.out (Kd.F_below (Kd.C_F (Kd.heap_int .u32) HR0_3.out) (bl HB))); rintro e wq6 ⟨v202, rfl, ho0, hb⟩; refine ⟨_, rfl, ?_⟩; have HO203 := aS (Kd.R_lower (Kd.R_mono (ok' := fun k_ => True) ho0 (fun _ hk_ => trivial)) (below_size (bl HB))); replace BK190 := aS (blk_below (bj BK190) hb); replace HB := aS (bs_ (bl HB) hb); clear hb ho0; obtain ⟨Aoq1, coq1, eoq1⟩ := Kd.R_slice HO203.out; subst eoq1; have p205 : 0 ≤ (0 : Int) := (by omega); have q205 : 0 < (t201.length : Int) := oa; obtain ⟨ad205, e205, hx205_0⟩ := Kd.at_int (Kd.R_reads' HO203.out).2.2 0 p205 q205; cases e205; have qi205 : (0 < t201.length) = True := eq_true (by omega); (try rw [show ((0 : Int)).toNat = 0 from rfl] at hx205_0); (try rw [Addr.add_zero'] at hx205_0); replace p205 := eq_true p205; replace q205 := eq_true q205) | ((with_reducible refine gate_callee (f := 178) rfl ?_); refine gl 67 Tryz.func178 #[.slice A0_2 l0_2.length c0_2, .slice A0_3 l0_3.length c0_3] ?_; (with_reducible refine (nat_Gcd.calls k (fun k_ => k_ < w.heap.size) _ _ l0_2 (fun k_ => k_ < w.heap.size) _ _ l0_3 t201 t204 _ ?side1 ?side2 A77.out).mono ?_); (case side1 => exact Kd.V_mk HC0_2.out (Kd.F_below (Kd.C_F (Kd.heap_int .u32) HR0_2.out) (bl HB))); (case side2 => exact Kd.V_mk HC0_3.out (Kd.F_below (Kd.C_F (Kd.heap_int .u32) HR0_3.out) (bl HB))); rintro e wq6 ⟨v202, rfl, ho0, hb⟩; refine ⟨_, rfl, ?_⟩; have HO203 := aS (Kd.R_lower (Kd.R_mono (ok' := fun k_ => True) ho0 (fun _ hk_ => trivial)) (below_size (bl HB))); replace BK190 := aS (blk_below (bj BK190) hb); replace HB := aS (bs_ (bl HB) hb); clear hb ho0; obtain ⟨Aoq1, coq1, eoq1⟩ := Kd.R_slice HO203.out; subst eoq1) | ((with_reducible refine gate_dst (N := 1) rfl ?_); (try (refine gate_guard (by rfl) ?_; dsimp only)); refine bx (N := 1) (cs := #[.int .i64 a0_0, .bool a0_1, .slice A0_2 l0_2.length c0_2, .slice A0_3 l0_3.length c0_3]) (t := 61) ?_; intro gb190 hg wq1 hbox hb; have BK190 := aS (hbox); have GW190 := (gz hg HB : Aside0 (w.heap.size ≤ gb190)); have GE190 := (gz hg HB : Aside0 (w.heap.size ≤ gb190)); replace HB := aS (bs_ (bl HB) hb); clear hb hbox hg; obtain ⟨_, _, _, _, _, _, _, _⟩ := cf4 BK190.out) | ((with_reducible refine gate_callee (f := 176) rfl ?_); refine gl 28 Tryz.func176 #[.slice A0_2 l0_2.length c0_2] ?_; (with_reducible refine (nat_IsNat.calls k (fun k_ => k_ < w.heap.size) _ _ l0_2 true _ ?side1 A3.out).mono ?_); (case side1 => exact Kd.V_mk HC0_2.out (Kd.F_below (Kd.C_F (Kd.heap_int .u32) HR0_2.out) (bl HB))); rintro e wq2 ⟨rfl, hb⟩; refine ⟨_, rfl, ?_⟩; replace BK190 := aS (blk_below (bj BK190) hb); replace HB := aS (bs_ (bl HB) hb); clear hb; obtain ⟨_, _, _, _, _, _, _, _⟩ := cf4 BK190.out) | (go_at_call 176; (with_reducible refine (nat_IsNat.calls k (fun k_ => k_ < w.heap.size) _ _ l0_3 true _ ?side1 A5.out).mono ?_); (case side1 => exact Kd.V_mk HC0_3.out (Kd.F_below (Kd.C_F (Kd.heap_int .u32) HR0_3.out) (bl HB))); rintro e wq3 ⟨rfl, hb⟩; replace BK190 := aS (blk_below (bj BK190) hb); replace HB := aS (bs_ (bl HB) hb); clear hb; obtain ⟨_, _, _, _, _, _, _, _⟩ := cf4 BK190.out) | (go_at_call 177; (with_reducible refine (frac_long.calls k _ _ l0_2 false _ ?side1 ?side2 A7.out).mono ?_); (case side1 => exact cb HR0_2 HB); (case side2 => exact HC0_2.out); rintro e wq4 ⟨rfl, hb⟩; replace BK190 := aS (blk_below (bj BK190) hb); replace HB := aS (bs_ (bl HB) hb); clear hb; obtain ⟨_, _, _, _, _, _, _, _⟩ := cf4 BK190.out) | (go_at_call 177; (with_reducible refine (frac_long.calls k _ _ l0_3 true _ ?side1 ?side2 A16.out).mono ?_); (case side1 => exact cb HR0_3 HB); (case side2 => exact HC0_3.out); rintro e wq5 ⟨rfl, hb⟩; replace BK190 := aS (blk_below (bj BK190) hb); replace HB := aS (bs_ (bl HB) hb); clear hb) | (go_at_call 177; (with_reducible refine (frac_long.calls k _ _ l0_3 false _ ?side1 ?side2 A16.out).mono ?_); (case side1 => exact cb HR0_3 HB); (case side2 => exact HC0_3.out); rintro e wq5 ⟨rfl, hb⟩; replace BK190 := aS (blk_below (bj BK190) hb); replace HB := aS (bs_ (bl HB) hb); clear hb; obtain ⟨_, _, _, _, _, _, _, _⟩ := cf4 BK190.out) | (go_at_call 177; (with_reducible refine (frac_long.calls k _ _ l0_2 true _ ?side1 ?side2 A7.out).mono ?_); (case side1 => exact cb HR0_2 HB); (case side2 => exact HC0_2.out); rintro e wq4 ⟨rfl, hb⟩; replace BK190 := aS (blk_below (bj BK190) hb); replace HB := aS (bs_ (bl HB) hb); clear hb) | (go_at_call 176; (with_reducible refine (nat_IsNat.calls k (fun k_ => k_ < w.heap.size) _ _ l0_3 false _ ?side1 A5.out).mono ?_); (case side1 => exact Kd.V_mk HC0_3.out (Kd.F_below (Kd.C_F (Kd.heap_int .u32) HR0_3.out) (bl HB))); rintro e wq3 ⟨rfl, hb⟩; replace BK190 := aS (blk_below (bj BK190) hb); replace HB := aS (bs_ (bl HB) hb); clear hb) | ((with_reducible refine gate_callee (f := 176) rfl ?_); refine gl 28 Tryz.func176 #[.slice A0_2 l0_2.length c0_2] ?_; (with_reducible refine (nat_IsNat.calls k (fun k_ => k_ < w.heap.size) _ _ l0_2 false _ ?side1 A3.out).mono ?_); (case side1 => exact Kd.V_mk HC0_2.out (Kd.F_below (Kd.C_F (Kd.heap_int .u32) HR0_2.out) (bl HB))); rintro e wq2 ⟨rfl, hb⟩; refine ⟨_, rfl, ?_⟩; replace BK190 := aS (blk_below (bj BK190) hb); replace HB := aS (bs_ (bl HB) hb); clear hb) | ((with_reducible refine gate_callee (f := 175) rfl ?_); refine gl 10 Tryz.func175 #[.int .i64 a0_0] ?_; (with_reducible refine (frac_isFault.calls a0_0 true _ A112.out).mono ?_); rintro e w' ⟨rfl, ⟨nd, rfl⟩⟩; refine ⟨_, rfl, ?_⟩) | ((with_reducible refine gate_callee (f := 175) rfl ?_); refine gl 10 Tryz.func175 #[.int .i64 a0_0] ?_; (with_reducible refine (frac_isFault.calls a0_0 false _ A112.out).mono ?_); rintro e w' ⟨rfl, ⟨nd, rfl⟩⟩; refine ⟨_, rfl, ?_⟩)))
 ·go_ret
  exact ⟨re, bl HB⟩
 ·go_ret
  exact ⟨re, bl HB⟩
 ·go_ret
  exact ⟨re, bl HB⟩
 ·go_ret
  exact ⟨re, bl HB⟩
 ·go_ret
  exact ⟨re, bl HB⟩
 ·go_ret
  exact ⟨re, bl HB⟩
 ·go_ret
  exact ⟨re, bl HB⟩
 ·go_ret
  exact ⟨re, bl HB⟩
 ·go_ret
  exact ⟨re, bl HB⟩
 ·go_ret
  exact ⟨re, bl HB⟩
 ·go_ret
  exact ⟨re, bl HB⟩
 ·go_ret
  exact ⟨re, bl HB⟩
 ·go_ret
  exact ⟨re, bl HB⟩
def code_empty.f (a0_0 : Int) (a0_1 : Bool) (l0_2 : List Int) (l0_3 : List Int) : Option (Bool) := if a0_0 = 0 then (if a0_1 = true then (some false) else (some ((wrap64 ((l0_2.length : Int) + (l0_3.length : Int))) == 0))) else (some false)
theorem code_empty.calls (a0_0 : Int) (a0_1 : Bool) (A0_2 : Option Addr) (c0_2 : Nat) (l0_2 : List Int) (A0_3 : Option Addr) (c0_3 : Nat) (l0_3 : List Int) (r : Bool) (w : World) (hr0_2 : Kd.C (Kd.int .u32) w A0_2 l0_2.length l0_2) (hc0_2 : l0_2.length ≤ c0_2) (hr0_3 : Kd.C (Kd.int .u32) w A0_3 l0_3.length l0_3) (hc0_3 : l0_3.length ≤ c0_3) (h : code_empty.f a0_0 a0_1 l0_2 l0_3 = some r) :
 Calls Tryz.prog 141 #[.agg #[.int .i64 a0_0, .bool a0_1, .slice A0_2 l0_2.length c0_2, .slice A0_3 l0_3.length c0_3]] w fun e w' => e = .returned (.bool r) ∧ Below w.heap.size w w' := by
 have hu61 := Tryz.underlying61
 have HR0_2 := aS hr0_2
 have HC0_2 := aS hc0_2
 clear hr0_2 hc0_2
 have HR0_3 := aS hr0_3
 have HC0_3 := aS hc0_3
 clear hr0_3 hc0_3
 have HB := aS (Below.refl w.heap.size w)
 have H := h
 unfold code_empty.f at H
 clear h
 by_cases c2 : a0_0 = 0; rotate_left
 ·rw [if_neg c2] at H
  have c2b0 := bF c2
  have c2b1 := nT c2
  obtain rfl := sI H
  go_enter Tryz.func141, Tryz.ntmps141
  go_wp2_with (first | ((with_reducible refine gate_dst (N := 1) rfl ?_); (try (refine gate_guard (by rfl) ?_; dsimp only)); refine bx (N := 1) (cs := #[.int .i64 a0_0, .bool a0_1, .slice A0_2 l0_2.length c0_2, .slice A0_3 l0_3.length c0_3]) (t := 61) ?_; intro gb206 hg w8 hbox hb; have BK206 := aS (hbox); have GW206 := (gz hg HB : Aside0 (w.heap.size ≤ gb206)); have GE206 := (gz hg HB : Aside0 (w.heap.size ≤ gb206)); replace HB := aS (bs_ (bl HB) hb); clear hb hbox hg; obtain ⟨_, _, _, _, _, _, _, _⟩ := cf4 BK206.out))
  go_ret
  exact ⟨re, bl HB⟩
 rw [if_pos c2] at H
 have c2b0 := bT c2
 have c2b1 := nF c2
 clear c2
 by_cases c3 : a0_1 = true
 ·subst c3
  rw [if_pos rfl] at H
  obtain rfl := sI H
  go_enter Tryz.func141, Tryz.ntmps141
  go_wp2_with (first | ((with_reducible refine gate_dst (N := 1) rfl ?_); (try (refine gate_guard (by rfl) ?_; dsimp only)); refine bx (N := 1) (cs := #[.int .i64 a0_0, .bool true, .slice A0_2 l0_2.length c0_2, .slice A0_3 l0_3.length c0_3]) (t := 61) ?_; intro gb206 hg w4 hbox hb; have BK206 := aS (hbox); have GW206 := (gz hg HB : Aside0 (w.heap.size ≤ gb206)); have GE206 := (gz hg HB : Aside0 (w.heap.size ≤ gb206)); replace HB := aS (bs_ (bl HB) hb); clear hb hbox hg; obtain ⟨_, _, _, _, _, _, _, _⟩ := cf4 BK206.out))
  go_ret
  exact ⟨re, bl HB⟩
 ·replace c3 := Bool.eq_false_iff.mpr c3
  subst c3
  rw [if_neg iN] at H
  obtain rfl := sI H
  go_enter Tryz.func141, Tryz.ntmps141
  go_wp2_with (first | ((with_reducible refine gate_dst (N := 1) rfl ?_); (try (refine gate_guard (by rfl) ?_; dsimp only)); refine bx (N := 1) (cs := #[.int .i64 a0_0, .bool false, .slice A0_2 l0_2.length c0_2, .slice A0_3 l0_3.length c0_3]) (t := 61) ?_; intro gb206 hg w6 hbox hb; have BK206 := aS (hbox); have GW206 := (gz hg HB : Aside0 (w.heap.size ≤ gb206)); have GE206 := (gz hg HB : Aside0 (w.heap.size ≤ gb206)); replace HB := aS (bs_ (bl HB) hb); clear hb hbox hg; obtain ⟨_, _, _, _, _, _, _, _⟩ := cf4 BK206.out))
  go_ret
  exact ⟨re, bl HB⟩
end Go.Proofs.YtbkknoipgmlcmaaGreatDoor.P

