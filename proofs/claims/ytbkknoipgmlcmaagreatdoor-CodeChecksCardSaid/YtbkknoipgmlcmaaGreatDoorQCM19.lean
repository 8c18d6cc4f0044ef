import Derived.Test.YtbkknoipgmlcmaaGreatDoorQCM13
set_option linter.unusedVariables false
set_option linter.unusedSimpArgs false
set_option maxHeartbeats 8000000
set_option maxRecDepth 100000
namespace Go.Proofs.YtbkknoipgmlcmaaGreatDoor.P
open Go.RowKit Go.Proofs.YtbkknoipgmlcmaaGreatDoorW.PrintWords Go.Proofs.YtbkknoipgmlcmaaGreatDoorW.PrintLast Go.Proofs.YtbkknoipgmlcmaaGreatDoorW.PrintMore
open Go.Proofs.FX
attribute [local go_sem] cell_twice le_add_cast
attribute [local go_sem] max2_int min2_int max_two min_two max_three min_three max_four min_four
mutual
def fluxionref01_Gcd.l0 : Nat → List Int → List Int → Int → Option (List Int)
 | 0, _, _, _ => none
 | k + 1, x0, x1, x5 => if 0 < (x0.length : Int) then (if (Int.tmod (rd x0 0) 2) = 0 then (if 0 < (x1.length : Int) then (fluxionref01_Gcd.j1 k x0 x1 x5 ((Int.tmod (rd x1 0) 2) == 0)) else (none)) else (fluxionref01_Gcd.j1 k x0 x1 x5 false)) else (none)
def fluxionref01_Gcd.j1 : Nat → List Int → List Int → Int → Bool → Option (List Int)
 | 0, _, _, _, _ => none
 | k + 1, x0, x1, x5, x31 => if x31 = true then ((fluxionref01_half.f k x0).bind fun t291 => ((fluxionref01_half.f k x1).bind fun t294 => (fluxionref01_Gcd.l0 k t291 t294 (wrap64 (x5 + 1))))) else (fluxionref01_Gcd.l1 k x0 x1 x5)
def fluxionref01_Gcd.l1 : Nat → List Int → List Int → Int → Option (List Int)
 | 0, _, _, _ => none
 | k + 1, x0, x1, x5 => if (x1.length : Int) > 0 then (fluxionref01_Gcd.l2 k x0 x1 x5) else (fluxionref01_Gcd.l4 k x0 x5 0)
def fluxionref01_Gcd.l2 : Nat → List Int → List Int → Int → Option (List Int)
 | 0, _, _, _ => none
 | k + 1, x0, x1, x5 => if 0 < (x0.length : Int) then (if (Int.tmod (rd x0 0) 2) = 0 then ((fluxionref01_half.f k x0).bind fun t298 => (fluxionref01_Gcd.l2 k t298 x1 x5)) else (fluxionref01_Gcd.l3 k x0 x1 x5)) else (none)
def fluxionref01_Gcd.l3 : Nat → List Int → List Int → Int → Option (List Int)
 | 0, _, _, _ => none
 | k + 1, x0, x1, x5 => if 0 < (x1.length : Int) then (if (Int.tmod (rd x1 0) 2) = 0 then ((fluxionref01_half.f k x1).bind fun t302 => (fluxionref01_Gcd.l3 k x0 t302 x5)) else ((fluxionref01_Compare.f k x0 x1).bind fun t305 => (if t305 > 0 then ((fluxionref01_Sub.f k x0 x1).bind fun t306 => (fluxionref01_Gcd.l1 k x1 t306 x5)) else ((fluxionref01_Sub.f k x1 x0).bind fun t309 => (fluxionref01_Gcd.l1 k x0 t309 x5))))) else (none)
def fluxionref01_Gcd.l4 : Nat → List Int → Int → Int → Option (List Int)
 | 0, _, _, _ => none
 | k + 1, x0, x5, x7 => if x7 < x5 then ((fluxionref01_twice.f k x0 0).bind fun t312 => (fluxionref01_Gcd.l4 k t312 x5 (wrap64 (x7 + 1)))) else ((some (([] : List Int) : List Int)).bind fun y315 => (if y315.length + x0.length < 35184372088832 then (some (y315 ++ x0)) else (none)))
end
def fluxionref01_Gcd.f (k : Nat) (l0 : List Int) (l1 : List Int) : Option (List Int) := if (l0.length : Int) = 0 then ((some (([] : List Int) : List Int)).bind fun y277 => (if y277.length + l1.length < 35184372088832 then (some (y277 ++ l1)) else (none))) else (if (l1.length : Int) = 0 then ((some (([] : List Int) : List Int)).bind fun y283 => (if y283.length + l0.length < 35184372088832 then (some (y283 ++ l0)) else (none))) else (fluxionref01_Gcd.l0 k l0 l1 0))
theorem fluxionref01_Gcd.calls (k : Nat) (P0_ : Nat → Prop) (A0 : Option Addr) (c0 : Nat) (l0 : List Int) (P1_ : Nat → Prop) (A1 : Option Addr) (c1 : Nat) (l1 : List Int) (r : List Int) (w : World) (hs0 : Kd.V (Kd.int .u32) 145 w w.heap.size (fun k_ => P0_ k_) (.slice A0 l0.length c0) l0) (hs1 : Kd.V (Kd.int .u32) 145 w w.heap.size (fun k_ => P1_ k_) (.slice A1 l1.length c1) l1) (h : fluxionref01_Gcd.f k l0 l1 = some r) :
 Calls Tryz.prog 144 #[.slice A0 l0.length c0, .slice A1 l1.length c1] w fun e w' => ∃ v0_ : Value, e = .returned (v0_) ∧ Kd.R (Kd.int .u32) 145 w' w.heap.size (fun k_ => (w.heap.size ≤ k_)) v0_ r ∧ Below w.heap.size w w' := by
 have HO0 := aS (show Kd.V (Kd.int .u32) 145 w w.heap.size (fun k_ => ((P0_ k_ ∨ P1_ k_) ∨ w.heap.size ≤ k_)) (.slice A0 l0.length c0) l0 from Kd.V_mono hs0 (fun k_ hk => .inl (.inl hk)))
 have HO1 := aS (show Kd.V (Kd.int .u32) 145 w w.heap.size (fun k_ => ((P0_ k_ ∨ P1_ k_) ∨ w.heap.size ≤ k_)) (.slice A1 l1.length c1) l1 from Kd.V_mono hs1 (fun k_ hk => .inl (.inr hk)))
 have HB := aS (Below.refl w.heap.size w)
 have H := h
 unfold fluxionref01_Gcd.f at H
 clear h
 by_cases c3 : (l0.length : Int) = 0
 focus
  rw [if_pos c3] at H
  have c3b0 := bT c3
  have c3b1 := nF c3
  clear c3
  obtain ⟨y277, hy277⟩ : ∃ y_ : List Int, y_ = (([] : List Int)) := ⟨_, rfl⟩
  first | replace H := bsB H hy277 | rw [← hy277] at H
  have Ny277 := aS hy277
  clear hy277
  by_cases c4 : y277.length + l1.length < 35184372088832
  focus
   rw [if_pos c4] at H
   have LMc4 := aS c4
   clear c4
   obtain ⟨y280, hy280⟩ : ∃ y_ : List Int, y_ = (y277 ++ l1) := ⟨_, rfl⟩
   first | replace H := bsB H hy280 | rw [← hy280] at H
   have Ny280 := aS hy280
   clear hy280
   obtain rfl := sI H
  rotate_left 1
  focus
   rw [if_neg c4] at H
   cases H
 rotate_left 1
 focus
  rw [if_neg c3] at H
  have c3b0 := bF c3
  have c3b1 := nT c3
  have c3b2 : ¬ (l0 = []) := fun h_ => c3 (by rw [h_]; rfl)
  by_cases c8 : (l1.length : Int) = 0
  focus
   rw [if_pos c8] at H
   have c8b0 := bT c8
   have c8b1 := nF c8
   clear c8
   obtain ⟨y283, hy283⟩ : ∃ y_ : List Int, y_ = (([] : List Int)) := ⟨_, rfl⟩
   first | replace H := bsB H hy283 | rw [← hy283] at H
   have Ny283 := aS hy283
   clear hy283
   by_cases c9 : y283.length + l0.length < 35184372088832
   focus
    rw [if_pos c9] at H
    have LMc9 := aS c9
    clear c9
    obtain ⟨y286, hy286⟩ : ∃ y_ : List Int, y_ = (y283 ++ l0) := ⟨_, rfl⟩
    first | replace H := bsB H hy286 | rw [← hy286] at H
    have Ny286 := aS hy286
    clear hy286
    obtain rfl := sI H
   rotate_left 1
   focus
    rw [if_neg c9] at H
    cases H
  rotate_left 1
  focus
   rw [if_neg c8] at H
   have c8b0 := bF c8
   have c8b1 := nT c8
   have c8b2 : ¬ (l1 = []) := fun h_ => c8 (by rw [h_]; rfl)
   have H' := aS H
   clear H
   go_enter Tryz.func144, Tryz.ntmps144
   go_wp2
   go_loopg [0, 1, 5] k (fun kq v0 v1 v5 w' => ∃ (x0_1 : List Int) (x1_1 : List Int) (x5_1 : Int), v5 = .int .i64 x5_1 ∧ Aside0 (fluxionref01_Gcd.l0 kq x0_1 x1_1 x5_1 = some r) ∧ Aside0 (kq ≤ k) ∧ Aside0 (Kd.V (Kd.int .u32) 145 w' w.heap.size (fun k_ => ((P0_ k_ ∨ P1_ k_) ∨ w.heap.size ≤ k_)) v0 x0_1) ∧ Aside0 (Kd.V (Kd.int .u32) 145 w' w.heap.size (fun k_ => ((P0_ k_ ∨ P1_ k_) ∨ w.heap.size ≤ k_)) v1 x1_1) ∧ Aside0 (Below w.heap.size w w'))
   case atStart => exact ⟨(l0), (l1), (0), rs, H', ⟨Nat.le_refl _⟩, ⟨by exact vA HO0.out⟩, ⟨by exact vA HO1.out⟩, ⟨bl HB⟩⟩
   case round =>
    clear H'
    (try clear c1); (try clear p2); (try clear c3); (try clear c3b0); (try clear c3b1); (try clear c3b2); (try clear c4); (try clear c8); (try clear c8b0); (try clear c8b1); (try clear c8b2); (try clear c9)
    obtain ⟨x0_1, x1_1, x5_1, rfl, HA, HK1, HO_0, HO_1, HB⟩ := hrel
    cases gk with
    | zero => exact absurd HA.out (by simp [fluxionref01_Gcd.l0])
    | succ k1 =>
     have H := HA.out
     clear HA
     simp only [fluxionref01_Gcd.l0] at H
     have HC13 := aS H
     clear H
     go_upto_region 6 with (fail)
     go_cut [31] (fun v31 wc => ∃ (kq : Nat) (x31_12 : Bool), v31 = .bool x31_12 ∧ Aside0 (fluxionref01_Gcd.j1 kq x0_1 x1_1 x5_1 x31_12 = some r) ∧ Aside0 (kq ≤ k1) ∧ Aside0 (Kd.V (Kd.int .u32) 145 wc w.heap.size (fun k_ => ((P0_ k_ ∨ P1_ k_) ∨ w.heap.size ≤ k_)) u0 x0_1) ∧ Aside0 (Kd.V (Kd.int .u32) 145 wc w.heap.size (fun k_ => ((P0_ k_ ∨ P1_ k_) ∨ w.heap.size ≤ k_)) u1 x1_1) ∧ Aside0 (Below w.heap.size w wc))
     case first =>
      have H := HC13.out
      clear HC13
      by_cases c14 : 0 < (x0_1.length : Int); rotate_left
      ·rw [if_neg c14] at H
       cases H
      rw [if_pos c14] at H
      have c14b0 := dT c14
      have c14b1 : decide (0 < x0_1.length) = true := dT (by omega)
      clear c14
      (first | rw [c14b0] | (simp only [i64_w, i32_w]; rw [c14b0]) | skip)
      by_cases c15 : (Int.tmod (rd x0_1 0) 2) = 0; rotate_left
      ·rw [if_neg c15] at H
       have c15b0 := bF c15
       have c15b1 := nT c15
       have H' := aS H
       clear H
       obtain ⟨Ao19, co19, eo19⟩ := Kd.V_slice HO_0.out
       subst eo19
       have p289 : 0 ≤ (0 : Int) := (by omega)
       have q289 : 0 < (x0_1.length : Int) := oa
       obtain ⟨ad289, e289, hx289_0⟩ := Kd.at_int (Kd.V_reads' HO_0.out).2.2 0 p289 q289
       cases e289
       have qi289 : (0 < x0_1.length) = True := eq_true (by omega)
       (try rw [show ((0 : Int)).toNat = 0 from rfl] at hx289_0)
       (try rw [Addr.add_zero'] at hx289_0)
       replace p289 := eq_true p289
       replace q289 := eq_true q289
       go_wp2
       go_meet
       case rel => exact ⟨_, (false), rs, H', ⟨by have := HK1.out; first | omega | exact Nat.le_refl _⟩, ⟨by exact vA HO_0.out⟩, ⟨by exact vA HO_1.out⟩, ⟨bl HB⟩⟩
      rw [if_pos c15] at H
      have c15b0 := bT c15
      have c15b1 := nF c15
      clear c15
      by_cases c16 : 0 < (x1_1.length : Int); rotate_left
      ·rw [if_neg c16] at H
       cases H
      rw [if_pos c16] at H
      have c16b0 := dT c16
      have c16b1 : decide (0 < x1_1.length) = true := dT (by omega)
      clear c16
      have H' := aS H
      clear H
      obtain ⟨Ao17, co17, eo17⟩ := Kd.V_slice HO_0.out
      subst eo17
      have p289 : 0 ≤ (0 : Int) := (by omega)
      have q289 : 0 < (x0_1.length : Int) := oa
      obtain ⟨ad289, e289, hx289_0⟩ := Kd.at_int (Kd.V_reads' HO_0.out).2.2 0 p289 q289
      cases e289
      have qi289 : (0 < x0_1.length) = True := eq_true (by omega)
      (try rw [show ((0 : Int)).toNat = 0 from rfl] at hx289_0)
      (try rw [Addr.add_zero'] at hx289_0)
      replace p289 := eq_true p289
      replace q289 := eq_true q289
      obtain ⟨Ao18, co18, eo18⟩ := Kd.V_slice HO_1.out
      subst eo18
      have p290 : 0 ≤ (0 : Int) := (by omega)
      have q290 : 0 < (x1_1.length : Int) := oa
      obtain ⟨ad290, e290, hx290_0⟩ := Kd.at_int (Kd.V_reads' HO_1.out).2.2 0 p290 q290
      cases e290
      have qi290 : (0 < x1_1.length) = True := eq_true (by omega)
      (try rw [show ((0 : Int)).toNat = 0 from rfl] at hx290_0)
      (try rw [Addr.add_zero'] at hx290_0)
      replace p290 := eq_true p290
      replace q290 := eq_true q290
      go_wp2
      go_meet
      case rel => exact ⟨_, (((Int.tmod (rd x1_1 0) 2) == 0)), rs, H', ⟨by have := HK1.out; first | omega | exact Nat.le_refl _⟩, ⟨by exact vA HO_0.out⟩, ⟨by exact vA HO_1.out⟩, ⟨bl HB⟩⟩
     case rest =>
      clear HC13
      (try clear c1); (try clear p2); (try clear q2); (try clear hx2); (try clear qi2); (try clear c3); (try clear c3b0); (try clear c3b1); (try clear c3b2); (try clear c4); (try clear c8); (try clear c8b0); (try clear c8b1); (try clear c8b2); (try clear c9); (try clear c14); (try clear c14b0); (try clear c14b1); (try clear c15); (try clear c15b0); (try clear c15b1); (try clear c16); (try clear c16b0); (try clear c16b1); (try clear hx289_0); (try clear hx290_0); (try clear p2); (try clear p289); (try clear p290); (try clear q289); (try clear q290)
      obtain ⟨kq, x31_12, rfl, HA, HJ12, HO_0, HO_1, HB⟩ := hcut
      cases kq with
      | zero => exact absurd HA.out (by simp [fluxionref01_Gcd.j1])
      | succ kj12 =>
       have H := HA.out
       clear HA
       simp only [fluxionref01_Gcd.j1] at H
       by_cases c20 : x31_12 = true
       ·subst c20
        rw [if_pos rfl] at H
        replace H := bS H
        obtain ⟨t291, A210, H⟩ := H
        (try dsimp only at H)
        have A21 := aS A210
        clear A210
        replace H := bS H
        obtain ⟨t294, A220, H⟩ := H
        (try dsimp only at H)
        have A22 := aS A220
        clear A220
        have H' := aS H
        clear H
        obtain ⟨Ao23, co23, eo23⟩ := Kd.V_slice HO_0.out
        subst eo23
        go_wp2_with (first | ((with_reducible refine gate_callee (f := 179) rfl ?_); refine gl 33 Tryz.func179 #[.slice Ao23 x0_1.length co23] ?_; (with_reducible refine (fluxionref01_half.calls kj12 _ _ x0_1 t291 _ ?side1 ?side2 A21.out).mono ?_); (case side1 => repeat (first | exact (Kd.V_reads' HO_0.out).2.2 | (with_reducible refine Kd.C_alloc ?_ _) | (with_reducible refine Kd.C_drewN ?_ _) | (with_reducible refine Kd.C_drew ?_))); (case side2 => exact (Kd.V_reads' HO_0.out).2.1); rintro e w24 ⟨v292, rfl, ho0, hb⟩; refine ⟨_, rfl, ?_⟩; replace HO_0 := aS (Kd.V_elder' (by exact vA HO_0.out) (Kd.R_base ho0) hb); replace HO_1 := aS (Kd.V_elder' (by exact vA HO_1.out) (Kd.R_base ho0) hb); have HO293 := aS (Kd.R_lower (Kd.R_newM (M := fun k_ => (w.heap.size ≤ k_)) ho0 (below_size (bl HB)) (fun k_ h_ => h_)) (below_size (bl HB))); replace HB := aS (bs_ (bl HB) hb); clear hb ho0; obtain ⟨Ao25, co25, eo25⟩ := Kd.V_slice HO_1.out; subst eo25) | ((with_reducible refine gate_callee (f := 179) rfl ?_); refine gl 35 Tryz.func179 #[.slice Ao25 x1_1.length co25] ?_; (with_reducible refine (fluxionref01_half.calls kj12 _ _ x1_1 t294 _ ?side1 ?side2 A22.out).mono ?_); (case side1 => repeat (first | exact (Kd.V_reads' HO_1.out).2.2 | (with_reducible refine Kd.C_alloc ?_ _) | (with_reducible refine Kd.C_drewN ?_ _) | (with_reducible refine Kd.C_drew ?_))); (case side2 => exact (Kd.V_reads' HO_1.out).2.1); rintro e w26 ⟨v295, rfl, ho0, hb⟩; refine ⟨_, rfl, ?_⟩; replace HO_0 := aS (Kd.V_elder' (by exact vA HO_0.out) (Kd.R_base ho0) hb); replace HO_1 := aS (Kd.V_elder' (by exact vA HO_1.out) (Kd.R_base ho0) hb); have HO296 := aS (Kd.R_lower (Kd.R_new' (Kd.R_newM (M := fun k_ => (w.heap.size ≤ k_)) ho0 (below_size (bl HB)) (fun k_ h_ => h_)) (Kd.R_lt (by exact rA HO293.out))) (below_size (bl HB))); replace HO293 := aS (Kd.R_elder' (by exact rA HO293.out) (Kd.R_base ho0) hb); replace HB := aS (bs_ (bl HB) hb); clear hb ho0))
        go_roundg kj12
        case measure => have := HK1.out; have := HJ12.out; omega
        case rel => exact ⟨(t291), (t294), (wrap64 (x5_1 + 1)), rs, H', ⟨by have := HK1.out; have := HJ12.out; omega⟩, ⟨Kd.V_mono (Kd.R_V (by exact rA (Kd.R_mono HO293.out (fun _ hk => hk.1.1)))) (fun k_ hk => by first | exact ⟨(.inr (hk.1)), hk.2⟩ | exact (.inr (hk)))⟩, ⟨Kd.V_mono (Kd.R_V (by exact rA (Kd.R_mono HO296.out (fun _ hk => hk.1.1)))) (fun k_ hk => by first | exact ⟨(.inr (hk.1)), hk.2⟩ | exact (.inr (hk)))⟩, ⟨bl HB⟩⟩
       replace c20 := Bool.eq_false_iff.mpr c20
       subst c20
       rw [if_neg iN] at H
       have H' := aS H
       clear H
       go_wp2
       go_loopg [0, 1] kj12 (fun kq v0 v1 w' => ∃ (x0_3 : List Int) (x1_3 : List Int), Aside0 (fluxionref01_Gcd.l1 kq x0_3 x1_3 x5_1 = some r) ∧ Aside0 (kq ≤ kj12) ∧ Aside0 (Kd.V (Kd.int .u32) 145 w' w.heap.size (fun k_ => ((P0_ k_ ∨ P1_ k_) ∨ w.heap.size ≤ k_)) v0 x0_3) ∧ Aside0 (Kd.V (Kd.int .u32) 145 w' w.heap.size (fun k_ => ((P0_ k_ ∨ P1_ k_) ∨ w.heap.size ≤ k_)) v1 x1_3) ∧ Aside0 (Below w.heap.size w w'))
       case atStart => exact ⟨(x0_1), (x1_1), H', ⟨Nat.le_refl _⟩, ⟨by exact vA HO_0.out⟩, ⟨by exact vA HO_1.out⟩, ⟨bl HB⟩⟩
       case round =>
        clear H'
        (try clear c1); (try clear c2); (try clear p2); (try clear q2); (try clear hx2); (try clear qi2); (try clear c3); (try clear c3b0); (try clear c3b1); (try clear c3b2); (try clear c4); (try clear p6); (try clear c8); (try clear c8b0); (try clear c8b1); (try clear c8b2); (try clear c9); (try clear c14); (try clear c14b0); (try clear c14b1); (try clear c15); (try clear c15b0); (try clear c15b1); (try clear c16); (try clear c16b0); (try clear c16b1); (try clear c17); (try clear c20); (try clear hx289_0); (try clear hx290_0); (try clear p2); (try clear p289); (try clear p290); (try clear q2); (try clear q289); (try clear q290)
        obtain ⟨x0_3, x1_3, HA, HK3, HO_0, HO_1, HB⟩ := hrel
        cases gk with
        | zero => exact absurd HA.out (by simp [fluxionref01_Gcd.l1])
        | succ k3 =>
         have H := HA.out
         clear HA
         simp only [fluxionref01_Gcd.l1] at H
         by_cases c27 : (x1_3.length : Int) > 0; rotate_left
         ·rw [if_neg c27] at H
          have c27b0 := dF c27
          have c27b1 : decide (0 < x1_3.length) = false := dF (by omega)
          clear c27
          have H' := aS H
          clear H
          obtain ⟨Ao48, co48, eo48⟩ := Kd.V_slice HO_1.out
          subst eo48
          go_wp2
          go_loopg [0, 7] k3 (fun kq v0 v7 w' => ∃ (x0_4 : List Int) (x7_4 : Int), v7 = .int .i64 x7_4 ∧ Aside0 (fluxionref01_Gcd.l4 kq x0_4 x5_1 x7_4 = some r) ∧ Aside0 (kq ≤ k3) ∧ Aside0 (Kd.V (Kd.int .u32) 145 w' w.heap.size (fun k_ => ((P0_ k_ ∨ P1_ k_) ∨ w.heap.size ≤ k_)) v0 x0_4) ∧ Aside0 (Below w.heap.size w w'))
          case atStart => exact ⟨(x0_3), (0), rs, H', ⟨Nat.le_refl _⟩, ⟨by exact vA HO_0.out⟩, ⟨bl HB⟩⟩
          case round =>
           clear H'
           (try clear c1); (try clear c2); (try clear p2); (try clear q2); (try clear hx2); (try clear qi2); (try clear c3); (try clear c3b0); (try clear c3b1); (try clear c3b2); (try clear p3); (try clear q3); (try clear hx3); (try clear qi3); (try clear c4); (try clear p6); (try clear c8); (try clear c8b0); (try clear c8b1); (try clear c8b2); (try clear c9); (try clear c14); (try clear c14b0); (try clear c14b1); (try clear c15); (try clear c15b0); (try clear c15b1); (try clear c16); (try clear c16b0); (try clear c16b1); (try clear c17); (try clear c18); (try clear c20); (try clear c27); (try clear c27b0); (try clear c27b1); (try clear p28); (try clear q28); (try clear hx28); (try clear qi28); (try clear c29); (try clear c29b0); (try clear c29b1); (try clear p29); (try clear q29); (try clear hx29); (try clear qi29); (try clear c30); (try clear c30b0); (try clear c30b1); (try clear p30); (try clear q30); (try clear hx30); (try clear qi30); (try clear c35); (try clear c35b0); (try clear c35b1); (try clear c36); (try clear c36b0); (try clear c36b1); (try clear c41); (try clear c41b0); (try clear hx289_0); (try clear hx290_0); (try clear hx297_0); (try clear hx301_0); (try clear p2); (try clear p28); (try clear p289); (try clear p29); (try clear p290); (try clear p297); (try clear p301); (try clear p6); (try clear q2); (try clear q28); (try clear q289); (try clear q29); (try clear q290); (try clear q297); (try clear q301)
           obtain ⟨x0_4, x7_4, rfl, HA, HK4, HO_0, HB⟩ := hrel
           cases gk with
           | zero => exact absurd HA.out (by simp [fluxionref01_Gcd.l4])
           | succ k4 =>
            have H := HA.out
            clear HA
            simp only [fluxionref01_Gcd.l4] at H
            by_cases c49 : x7_4 < x5_1
            ·rw [if_pos c49] at H
             have c49b0 := dT c49
             clear c49
             replace H := bS H
             obtain ⟨t312, A500, H⟩ := H
             (try dsimp only at H)
             have A50 := aS A500
             clear A500
             have H' := aS H
             clear H
             obtain ⟨Ao51, co51, eo51⟩ := Kd.V_slice HO_0.out
             subst eo51
             go_wp2_with (first | ((with_reducible refine gate_callee (f := 182) rfl ?_); refine gl 71 Tryz.func182 #[.slice Ao51 x0_4.length co51, .int .u32 0] ?_; (with_reducible refine (fluxionref01_twice.calls k4 _ _ x0_4 0 t312 _ ?side1 ?side2 A50.out).mono ?_); (case side1 => repeat (first | exact (Kd.V_reads' HO_0.out).2.2 | (with_reducible refine Kd.C_alloc ?_ _) | (with_reducible refine Kd.C_drewN ?_ _) | (with_reducible refine Kd.C_drew ?_))); (case side2 => exact (Kd.V_reads' HO_0.out).2.1); rintro e w52 ⟨v313, rfl, ho0, hb⟩; refine ⟨_, rfl, ?_⟩; replace HO_0 := aS (Kd.V_elder' (by exact vA HO_0.out) (Kd.R_base ho0) hb); have HO314 := aS (Kd.R_lower (Kd.R_newM (M := fun k_ => (w.heap.size ≤ k_)) ho0 (below_size (bl HB)) (fun k_ h_ => h_)) (below_size (bl HB))); replace HB := aS (bs_ (bl HB) hb); clear hb ho0))
             go_roundg k4
             case measure => have := HK1.out; have := HJ12.out; have := HK3.out; have := HK4.out; omega
             case rel => exact ⟨(t312), (wrap64 (x7_4 + 1)), rs, H', ⟨by have := HK1.out; have := HJ12.out; have := HK3.out; have := HK4.out; omega⟩, ⟨Kd.V_mono (Kd.R_V (by exact rA (Kd.R_mono HO314.out (fun _ hk => hk.1)))) (fun k_ hk => by first | exact ⟨(.inr (hk.1)), hk.2⟩ | exact (.inr (hk)))⟩, ⟨bl HB⟩⟩
            ·rw [if_neg c49] at H
             have c49b0 := dF c49
             clear c49
             obtain ⟨y315, hy315⟩ : ∃ y_ : List Int, y_ = (([] : List Int)) := ⟨_, rfl⟩
             first | replace H := bsB H hy315 | rw [← hy315] at H
             have Ny315 := aS hy315
             clear hy315
             by_cases c53 : y315.length + x0_4.length < 35184372088832
             ·rw [if_pos c53] at H
              have LMc53 := aS c53
              clear c53
              obtain ⟨y318, hy318⟩ : ∃ y_ : List Int, y_ = (y315 ++ x0_4) := ⟨_, rfl⟩
              first | replace H := bsB H hy318 | rw [← hy318] at H
              have Ny318 := aS hy318
              clear hy318
              obtain rfl := sI H
              go_wp2_with (first | ((with_reducible refine gate_dst (N := 72) rfl ?_); refine Kd.R_lit (Kd.int .u32) _ 145 ?hg (N := 72) ?hd (xs := ([] : List Int)) (inner := []) (ok := fun _ => True) (okp := fun _ => True) ?hr ?hp (fun _ hk => hk) trivial (Below.refl _ _) (Nat.le_refl _) (by simp) ?_; (case hd => rfl); (case hg => rfl); (case hr => first | (go_simp; done) | (go_simp; rfl)); (case hp => exact (Reps.none _ _)); intro v316 w54 ho55 hb hg_ hnew_; clear hg_ hnew_; (first | rw [← Ny315.out] at ho55 | (simp only [Int.reduceToNat] at ho55; rw [← Ny315.out] at ho55)); replace HO_0 := aS (Kd.V_elder' (by exact vA HO_0.out) (Kd.R_base ho55) hb); have HO317 := aS (Kd.R_lower (Kd.R_newM (M := fun k_ => (w.heap.size ≤ k_)) ho55 (below_size (bl HB)) (fun k_ h_ => h_)) (below_size (bl HB))); replace HB := aS (bs_ (bl HB) hb); clear hb ho55; obtain ⟨Ao57, co57, eo57⟩ := Kd.V_slice HO_0.out; subst eo57) | ((with_reducible refine gate_builtin (b := .append) (xs := #[.tmp 72, .tmp 73]) rfl ?_); at_builtin; refine Kd.R_append_rows (Kd.int .u32) (w0 := w) w.heap.size rfl (.tmp 72) (.tmp 73) 59 145 (.int .u32 0) 4 rfl Tryz.underlying59 info145 rfl (by decide) (by omega) v316 y315 x0_4 _ _ _ (fun k_ => (w.heap.size ≤ k_)) (fun _ => False) rfl rfl ?aO ?aR (fun _ _ h => h) (fun _ h => h.elim) ?aF ?aB ?aS ?aL ?_; (case aR => repeat (first | exact (Kd.V_reads' HO_0.out).2.2 | (with_reducible refine Kd.C_alloc ?_ _) | (with_reducible refine Kd.C_drewN ?_ _) | (with_reducible refine Kd.C_drew ?_))); (case aB => exact (bl HB)); (case aF => exact (fun k_ hk => (Nat.le_trans (below_size (bl HB)) hk))); (case aO => exact (by exact rA (Kd.R_mono HO317.out (fun _ hk => hk.1)))); (case aS => exact (below_size (bl HB))); (case aL => have := LMc53.out; omega); intro v319 w56 ho hb hg hat; rw [← Ny318.out] at ho; replace HO_0 := aS (Kd.V_afterv (ok := (fun k_ => ((P0_ k_ ∨ P1_ k_) ∨ w.heap.size ≤ k_))) (by exact vA HO_0.out) hg hat); replace HB := aS (hb); have HO320 := aS (ho); clear HO317; clear ho hb hg hat))
              go_ret
              exact ⟨_, re, by exact rA HO320.out, bl HB⟩
             ·rw [if_neg c53] at H
              cases H
         rw [if_pos c27] at H
         have c27b0 := dT c27
         have c27b1 : decide (0 < x1_3.length) = true := dT (by omega)
         clear c27
         have H' := aS H
         clear H
         obtain ⟨Ao28, co28, eo28⟩ := Kd.V_slice HO_1.out
         subst eo28
         go_wp2
         go_loopg [0] k3 (fun kq v0 w' => ∃ (x0_4 : List Int), Aside0 (fluxionref01_Gcd.l2 kq x0_4 x1_3 x5_1 = some r) ∧ Aside0 (kq ≤ k3) ∧ Aside0 (Kd.V (Kd.int .u32) 145 w' w.heap.size (fun k_ => ((P0_ k_ ∨ P1_ k_) ∨ w.heap.size ≤ k_)) v0 x0_4) ∧ Aside0 (Kd.V (Kd.int .u32) 145 w' w.heap.size (fun k_ => ((P0_ k_ ∨ P1_ k_) ∨ w.heap.size ≤ k_)) (.slice Ao28 x1_3.length co28) x1_3) ∧ Aside0 (Below w.heap.size w w'))
         case atStart => exact ⟨(x0_3), H', ⟨Nat.le_refl _⟩, ⟨by exact vA HO_0.out⟩, ⟨by exact vA HO_1.out⟩, ⟨bl HB⟩⟩
         case round =>
          clear H'
          (try clear c1); (try clear c2); (try clear p2); (try clear q2); (try clear hx2); (try clear qi2); (try clear c3); (try clear c3b0); (try clear c3b1); (try clear c3b2); (try clear c4); (try clear p6); (try clear c8); (try clear c8b0); (try clear c8b1); (try clear c8b2); (try clear c9); (try clear c14); (try clear c14b0); (try clear c14b1); (try clear c15); (try clear c15b0); (try clear c15b1); (try clear c16); (try clear c16b0); (try clear c16b1); (try clear c17); (try clear c20); (try clear c27); (try clear c27b0); (try clear c27b1); (try clear p28); (try clear q28); (try clear hx28); (try clear qi28); (try clear hx289_0); (try clear hx290_0); (try clear p2); (try clear p289); (try clear p290); (try clear p6); (try clear q2); (try clear q289); (try clear q290)
          obtain ⟨x0_4, HA, HK4, HO_0, HO_1, HB⟩ := hrel
          cases gk with
          | zero => exact absurd HA.out (by simp [fluxionref01_Gcd.l2])
          | succ k4 =>
           have H := HA.out
           clear HA
           simp only [fluxionref01_Gcd.l2] at H
           by_cases c29 : 0 < (x0_4.length : Int); rotate_left
           ·rw [if_neg c29] at H
            cases H
           rw [if_pos c29] at H
           have c29b0 := dT c29
           have c29b1 : decide (0 < x0_4.length) = true := dT (by omega)
           clear c29
           by_cases c30 : (Int.tmod (rd x0_4 0) 2) = 0
           ·rw [if_pos c30] at H
            have c30b0 := bT c30
            have c30b1 := nF c30
            clear c30
            replace H := bS H
            obtain ⟨t298, A310, H⟩ := H
            (try dsimp only at H)
            have A31 := aS A310
            clear A310
            have H' := aS H
            clear H
            obtain ⟨Ao32, co32, eo32⟩ := Kd.V_slice HO_0.out
            subst eo32
            have p297 : 0 ≤ (0 : Int) := (by omega)
            have q297 : 0 < (x0_4.length : Int) := oa
            obtain ⟨ad297, e297, hx297_0⟩ := Kd.at_int (Kd.V_reads' HO_0.out).2.2 0 p297 q297
            cases e297
            have qi297 : (0 < x0_4.length) = True := eq_true (by omega)
            (try rw [show ((0 : Int)).toNat = 0 from rfl] at hx297_0)
            (try rw [Addr.add_zero'] at hx297_0)
            replace p297 := eq_true p297
            replace q297 := eq_true q297
            go_wp2_with (first | ((with_reducible refine gate_callee (f := 179) rfl ?_); refine gl 47 Tryz.func179 #[.slice (some ad297) x0_4.length co32] ?_; (with_reducible refine (fluxionref01_half.calls k4 _ _ x0_4 t298 _ ?side1 ?side2 A31.out).mono ?_); (case side1 => repeat (first | exact (Kd.V_reads' HO_0.out).2.2 | (with_reducible refine Kd.C_alloc ?_ _) | (with_reducible refine Kd.C_drewN ?_ _) | (with_reducible refine Kd.C_drew ?_))); (case side2 => exact (Kd.V_reads' HO_0.out).2.1); rintro e w33 ⟨v299, rfl, ho0, hb⟩; refine ⟨_, rfl, ?_⟩; replace HO_0 := aS (Kd.V_elder' (by exact vA HO_0.out) (Kd.R_base ho0) hb); replace HO_1 := aS (Kd.V_elder' (by exact vA HO_1.out) (Kd.R_base ho0) hb); have HO300 := aS (Kd.R_lower (Kd.R_newM (M := fun k_ => (w.heap.size ≤ k_)) ho0 (below_size (bl HB)) (fun k_ h_ => h_)) (below_size (bl HB))); replace HB := aS (bs_ (bl HB) hb); clear hb ho0))
            go_roundg k4
            case measure => have := HK1.out; have := HJ12.out; have := HK3.out; have := HK4.out; omega
            case rel => exact ⟨(t298), H', ⟨by have := HK1.out; have := HJ12.out; have := HK3.out; have := HK4.out; omega⟩, ⟨Kd.V_mono (Kd.R_V (by exact rA (Kd.R_mono HO300.out (fun _ hk => hk.1)))) (fun k_ hk => by first | exact ⟨(.inr (hk.1)), hk.2⟩ | exact (.inr (hk)))⟩, ⟨by exact vA (Kd.V_mono HO_1.out (fun _ hk => hk.1))⟩, ⟨bl HB⟩⟩
           rw [if_neg c30] at H
           have c30b0 := bF c30
           have c30b1 := nT c30
           have H' := aS H
           clear H
           obtain ⟨Ao34, co34, eo34⟩ := Kd.V_slice HO_0.out
           subst eo34
           have p297 : 0 ≤ (0 : Int) := (by omega)
           have q297 : 0 < (x0_4.length : Int) := oa
           obtain ⟨ad297, e297, hx297_0⟩ := Kd.at_int (Kd.V_reads' HO_0.out).2.2 0 p297 q297
           cases e297
           have qi297 : (0 < x0_4.length) = True := eq_true (by omega)
           (try rw [show ((0 : Int)).toNat = 0 from rfl] at hx297_0)
           (try rw [Addr.add_zero'] at hx297_0)
           replace p297 := eq_true p297
           replace q297 := eq_true q297
           go_wp2
           go_loopg [1] k4 (fun kq v1 w' => ∃ (x1_5 : List Int), Aside0 (fluxionref01_Gcd.l3 kq x0_4 x1_5 x5_1 = some r) ∧ Aside0 (kq ≤ k4) ∧ Aside0 (Kd.V (Kd.int .u32) 145 w' w.heap.size (fun k_ => ((P0_ k_ ∨ P1_ k_) ∨ w.heap.size ≤ k_)) (.slice (some ad297) x0_4.length co34) x0_4) ∧ Aside0 (Kd.V (Kd.int .u32) 145 w' w.heap.size (fun k_ => ((P0_ k_ ∨ P1_ k_) ∨ w.heap.size ≤ k_)) v1 x1_5) ∧ Aside0 (Below w.heap.size w w'))
           case atStart => exact ⟨(x1_3), H', ⟨Nat.le_refl _⟩, ⟨by exact vA HO_0.out⟩, ⟨by exact vA HO_1.out⟩, ⟨bl HB⟩⟩
           case round =>
            clear H'
            (try clear c1); (try clear c2); (try clear p2); (try clear q2); (try clear hx2); (try clear qi2); (try clear c3); (try clear c3b0); (try clear c3b1); (try clear c3b2); (try clear c4); (try clear p6); (try clear c8); (try clear c8b0); (try clear c8b1); (try clear c8b2); (try clear c9); (try clear c14); (try clear c14b0); (try clear c14b1); (try clear c15); (try clear c15b0); (try clear c15b1); (try clear c16); (try clear c16b0); (try clear c16b1); (try clear c17); (try clear c20); (try clear c27); (try clear c27b0); (try clear c27b1); (try clear p28); (try clear q28); (try clear hx28); (try clear qi28); (try clear c29); (try clear c29b0); (try clear c29b1); (try clear p29); (try clear q29); (try clear hx29); (try clear qi29); (try clear c30); (try clear c30b0); (try clear c30b1); (try clear hx289_0); (try clear hx290_0); (try clear hx297_0); (try clear p2); (try clear p28); (try clear p289); (try clear p290); (try clear p297); (try clear p6); (try clear q2); (try clear q28); (try clear q289); (try clear q290); (try clear q297)
            obtain ⟨x1_5, HA, HK5, HO_0, HO_1, HB⟩ := hrel
            cases gk with
            | zero => exact absurd HA.out (by simp [fluxionref01_Gcd.l3])
            | succ k5 =>
             have H := HA.out
             clear HA
             simp only [fluxionref01_Gcd.l3] at H
             by_cases c35 : 0 < (x1_5.length : Int); rotate_left
             ·rw [if_neg c35] at H
              cases H
             rw [if_pos c35] at H
             have c35b0 := dT c35
             have c35b1 : decide (0 < x1_5.length) = true := dT (by omega)
             clear c35
             by_cases c36 : (Int.tmod (rd x1_5 0) 2) = 0
             ·rw [if_pos c36] at H
              have c36b0 := bT c36
              have c36b1 := nF c36
              clear c36
              replace H := bS H
              obtain ⟨t302, A370, H⟩ := H
              (try dsimp only at H)
              have A37 := aS A370
              clear A370
              have H' := aS H
              clear H
              obtain ⟨Ao38, co38, eo38⟩ := Kd.V_slice HO_1.out
              subst eo38
              have p301 : 0 ≤ (0 : Int) := (by omega)
              have q301 : 0 < (x1_5.length : Int) := oa
              obtain ⟨ad301, e301, hx301_0⟩ := Kd.at_int (Kd.V_reads' HO_1.out).2.2 0 p301 q301
              cases e301
              have qi301 : (0 < x1_5.length) = True := eq_true (by omega)
              (try rw [show ((0 : Int)).toNat = 0 from rfl] at hx301_0)
              (try rw [Addr.add_zero'] at hx301_0)
              replace p301 := eq_true p301
              replace q301 := eq_true q301
              go_wp2_with (first | ((with_reducible refine gate_callee (f := 179) rfl ?_); refine gl 54 Tryz.func179 #[.slice (some ad301) x1_5.length co38] ?_; (with_reducible refine (fluxionref01_half.calls k5 _ _ x1_5 t302 _ ?side1 ?side2 A37.out).mono ?_); (case side1 => repeat (first | exact (Kd.V_reads' HO_1.out).2.2 | (with_reducible refine Kd.C_alloc ?_ _) | (with_reducible refine Kd.C_drewN ?_ _) | (with_reducible refine Kd.C_drew ?_))); (case side2 => exact (Kd.V_reads' HO_1.out).2.1); rintro e w39 ⟨v303, rfl, ho0, hb⟩; refine ⟨_, rfl, ?_⟩; replace HO_0 := aS (Kd.V_elder' (by exact vA HO_0.out) (Kd.R_base ho0) hb); replace HO_1 := aS (Kd.V_elder' (by exact vA HO_1.out) (Kd.R_base ho0) hb); have HO304 := aS (Kd.R_lower (Kd.R_newM (M := fun k_ => (w.heap.size ≤ k_)) ho0 (below_size (bl HB)) (fun k_ h_ => h_)) (below_size (bl HB))); replace HB := aS (bs_ (bl HB) hb); clear hb ho0))
              go_roundg k5
              case measure => have := HK1.out; have := HJ12.out; have := HK3.out; have := HK4.out; have := HK5.out; omega
              case rel => exact ⟨(t302), H', ⟨by have := HK1.out; have := HJ12.out; have := HK3.out; have := HK4.out; have := HK5.out; omega⟩, ⟨by exact vA (Kd.V_mono HO_0.out (fun _ hk => hk.1))⟩, ⟨Kd.V_mono (Kd.R_V (by exact rA (Kd.R_mono HO304.out (fun _ hk => hk.1)))) (fun k_ hk => by first | exact ⟨(.inr (hk.1)), hk.2⟩ | exact (.inr (hk)))⟩, ⟨bl HB⟩⟩
             rw [if_neg c36] at H
             have c36b0 := bF c36
             have c36b1 := nT c36
             replace H := bS H
             obtain ⟨t305, A400, H⟩ := H
             (try dsimp only at H)
             have A40 := aS A400
             clear A400
             by_cases c41 : t305 > 0; rotate_left
             ·rw [if_neg c41] at H
              have c41b0 := dF c41
              clear c41
              replace H := bS H
              obtain ⟨t309, A450, H⟩ := H
              (try dsimp only at H)
              have A45 := aS A450
              clear A450
              have H' := aS H
              clear H
              obtain ⟨Ao46, co46, eo46⟩ := Kd.V_slice HO_1.out
              subst eo46
              have p301 : 0 ≤ (0 : Int) := (by omega)
              have q301 : 0 < (x1_5.length : Int) := oa
              obtain ⟨ad301, e301, hx301_0⟩ := Kd.at_int (Kd.V_reads' HO_1.out).2.2 0 p301 q301
              cases e301
              have qi301 : (0 < x1_5.length) = True := eq_true (by omega)
              (try rw [show ((0 : Int)).toNat = 0 from rfl] at hx301_0)
              (try rw [Addr.add_zero'] at hx301_0)
              replace p301 := eq_true p301
              replace q301 := eq_true q301
              go_wp2_with (first | ((with_reducible refine gate_callee (f := 180) rfl ?_); refine gl 57 Tryz.func180 #[.slice (some ad297) x0_4.length co34, .slice (some ad301) x1_5.length co46] ?_; (with_reducible refine (fluxionref01_Compare.calls k5 _ _ x0_4 _ _ x1_5 t305 _ ?side1 ?side2 ?side3 ?side4 A40.out).mono ?_); (case side1 => repeat (first | exact (Kd.V_reads' HO_0.out).2.2 | (with_reducible refine Kd.C_alloc ?_ _) | (with_reducible refine Kd.C_drewN ?_ _) | (with_reducible refine Kd.C_drew ?_))); (case side2 => exact (Kd.V_reads' HO_0.out).2.1); (case side3 => repeat (first | exact (Kd.V_reads' HO_1.out).2.2 | (with_reducible refine Kd.C_alloc ?_ _) | (with_reducible refine Kd.C_drewN ?_ _) | (with_reducible refine Kd.C_drew ?_))); (case side4 => exact (Kd.V_reads' HO_1.out).2.1); rintro e w' ⟨rfl, ⟨nd, rfl⟩⟩; refine ⟨_, rfl, ?_⟩) | ((with_reducible refine gate_callee (f := 181) rfl ?_); refine gl 64 Tryz.func181 #[.slice (some ad301) x1_5.length co46, .slice (some ad297) x0_4.length co34] ?_; (with_reducible refine (fluxionref01_Sub.calls k5 _ _ x1_5 _ _ x0_4 t309 _ ?side1 ?side2 ?side3 ?side4 A45.out).mono ?_); (case side1 => repeat (first | exact (Kd.V_reads' HO_1.out).2.2 | (with_reducible refine Kd.C_alloc ?_ _) | (with_reducible refine Kd.C_drewN ?_ _) | (with_reducible refine Kd.C_drew ?_))); (case side2 => exact (Kd.V_reads' HO_1.out).2.1); (case side3 => repeat (first | exact (Kd.V_reads' HO_0.out).2.2 | (with_reducible refine Kd.C_alloc ?_ _) | (with_reducible refine Kd.C_drewN ?_ _) | (with_reducible refine Kd.C_drew ?_))); (case side4 => exact (Kd.V_reads' HO_0.out).2.1); rintro e w47 ⟨v310, rfl, ho0, hb⟩; refine ⟨_, rfl, ?_⟩; replace HO_0 := aS (Kd.V_elder' (by exact vA HO_0.out) (Kd.R_base ho0) hb); replace HO_1 := aS (Kd.V_elder' (by exact vA HO_1.out) (Kd.R_base ho0) hb); have HO311 := aS (Kd.R_lower (Kd.R_newM (M := fun k_ => (w.heap.size ≤ k_)) ho0 (below_size (bl HB)) (fun k_ h_ => h_)) (below_size (bl HB))); replace HB := aS (bs_ (bl HB) hb); clear hb ho0))
              go_roundg k5
              case measure => have := HK1.out; have := HJ12.out; have := HK3.out; have := HK4.out; have := HK5.out; omega
              case rel => exact ⟨(x0_4), (t309), H', ⟨by have := HK1.out; have := HJ12.out; have := HK3.out; have := HK4.out; have := HK5.out; omega⟩, ⟨by exact vA (Kd.V_mono HO_0.out (fun _ hk => hk.1))⟩, ⟨Kd.V_mono (Kd.R_V (by exact rA (Kd.R_mono HO311.out (fun _ hk => hk.1)))) (fun k_ hk => by first | exact ⟨(.inr (hk.1)), hk.2⟩ | exact (.inr (hk)))⟩, ⟨bl HB⟩⟩
             rw [if_pos c41] at H
             have c41b0 := dT c41
             clear c41
             replace H := bS H
             obtain ⟨t306, A420, H⟩ := H
             (try dsimp only at H)
             have A42 := aS A420
             clear A420
             have H' := aS H
             clear H
             obtain ⟨Ao43, co43, eo43⟩ := Kd.V_slice HO_1.out
             subst eo43
             have p301 : 0 ≤ (0 : Int) := (by omega)
             have q301 : 0 < (x1_5.length : Int) := oa
             obtain ⟨ad301, e301, hx301_0⟩ := Kd.at_int (Kd.V_reads' HO_1.out).2.2 0 p301 q301
             cases e301
             have qi301 : (0 < x1_5.length) = True := eq_true (by omega)
             (try rw [show ((0 : Int)).toNat = 0 from rfl] at hx301_0)
             (try rw [Addr.add_zero'] at hx301_0)
             replace p301 := eq_true p301
             replace q301 := eq_true q301
             go_wp2_with (first | ((with_reducible refine gate_callee (f := 180) rfl ?_); refine gl 57 Tryz.func180 #[.slice (some ad297) x0_4.length co34, .slice (some ad301) x1_5.length co43] ?_; (with_reducible refine (fluxionref01_Compare.calls k5 _ _ x0_4 _ _ x1_5 t305 _ ?side1 ?side2 ?side3 ?side4 A40.out).mono ?_); (case side1 => repeat (first | exact (Kd.V_reads' HO_0.out).2.2 | (with_reducible refine Kd.C_alloc ?_ _) | (with_reducible refine Kd.C_drewN ?_ _) | (with_reducible refine Kd.C_drew ?_))); (case side2 => exact (Kd.V_reads' HO_0.out).2.1); (case side3 => repeat (first | exact (Kd.V_reads' HO_1.out).2.2 | (with_reducible refine Kd.C_alloc ?_ _) | (with_reducible refine Kd.C_drewN ?_ _) | (with_reducible refine Kd.C_drew ?_))); (case side4 => exact (Kd.V_reads' HO_1.out).2.1); rintro e w' ⟨rfl, ⟨nd, rfl⟩⟩; refine ⟨_, rfl, ?_⟩) | ((with_reducible refine gate_callee (f := 181) rfl ?_); refine gl 64 Tryz.func181 #[.slice (some ad297) x0_4.length co34, .slice (some ad301) x1_5.length co43] ?_; (with_reducible refine (fluxionref01_Sub.calls k5 _ _ x0_4 _ _ x1_5 t306 _ ?side1 ?side2 ?side3 ?side4 A42.out).mono ?_); (case side1 => repeat (first | exact (Kd.V_reads' HO_0.out).2.2 | (with_reducible refine Kd.C_alloc ?_ _) | (with_reducible refine Kd.C_drewN ?_ _) | (with_reducible refine Kd.C_drew ?_))); (case side2 => exact (Kd.V_reads' HO_0.out).2.1); (case side3 => repeat (first | exact (Kd.V_reads' HO_1.out).2.2 | (with_reducible refine Kd.C_alloc ?_ _) | (with_reducible refine Kd.C_drewN ?_ _) | (with_reducible refine Kd.C_drew ?_))); (case side4 => exact (Kd.V_reads' HO_1.out).2.1); rintro e w44 ⟨v307, rfl, ho0, hb⟩; refine ⟨_, rfl, ?_⟩; replace HO_0 := aS (Kd.V_elder' (by exact vA HO_0.out) (Kd.R_base ho0) hb); replace HO_1 := aS (Kd.V_elder' (by exact vA HO_1.out) (Kd.R_base ho0) hb); have HO308 := aS (Kd.R_lower (Kd.R_newM (M := fun k_ => (w.heap.size ≤ k_)) ho0 (below_size (bl HB)) (fun k_ h_ => h_)) (below_size (bl HB))); replace HB := aS (bs_ (bl HB) hb); clear hb ho0))
             go_roundg k5
             case measure => have := HK1.out; have := HJ12.out; have := HK3.out; have := HK4.out; have := HK5.out; omega
             case rel => exact ⟨(x1_5), (t306), H', ⟨by have := HK1.out; have := HJ12.out; have := HK3.out; have := HK4.out; have := HK5.out; omega⟩, ⟨by exact vA (Kd.V_mono HO_1.out (fun _ hk => hk.1))⟩, ⟨Kd.V_mono (Kd.R_V (by exact rA (Kd.R_mono HO308.out (fun _ hk => hk.1)))) (fun k_ hk => by first | exact ⟨(.inr (hk.1)), hk.2⟩ | exact (.inr (hk)))⟩, ⟨bl HB⟩⟩
 rotate_left 1
 all_goals (go_enter Tryz.func144, Tryz.ntmps144)
 all_goals (go_wp2_with (first | ((with_reducible refine gate_dst (N := 11) rfl ?_); refine Kd.R_lit (Kd.int .u32) _ 145 ?hg (N := 11) ?hd (xs := ([] : List Int)) (inner := []) (ok := fun _ => True) (okp := fun _ => True) ?hr ?hp (fun _ hk => hk) trivial (Below.refl _ _) (Nat.le_refl _) (by simp) ?_; (case hd => rfl); (case hg => rfl); (case hr => first | (go_simp; done) | (go_simp; rfl)); (case hp => exact (Reps.none _ _)); intro v278 wq1 ho6 hb hg_ hnew_; clear hg_ hnew_; (first | rw [← Ny277.out] at ho6 | (simp only [Int.reduceToNat] at ho6; rw [← Ny277.out] at ho6)); replace HO0 := aS (Kd.V_elder' (by exact vA HO0.out) (Kd.R_base ho6) hb); replace HO1 := aS (Kd.V_elder' (by exact vA HO1.out) (Kd.R_base ho6) hb); have HO279 := aS (Kd.R_lower (Kd.R_newM (M := fun k_ => (w.heap.size ≤ k_)) ho6 (below_size (bl HB)) (fun k_ h_ => h_)) (below_size (bl HB))); replace HB := aS (bs_ (bl HB) hb); clear hb ho6) | ((with_reducible refine gate_builtin (b := .append) (xs := #[.tmp 11, .tmp 12]) rfl ?_); at_builtin; refine Kd.R_append_rows (Kd.int .u32) (w0 := w) w.heap.size rfl (.tmp 11) (.tmp 12) 59 145 (.int .u32 0) 4 rfl Tryz.underlying59 info145 rfl (by decide) (by omega) v278 y277 l1 _ _ _ (fun k_ => (w.heap.size ≤ k_)) (fun _ => False) rfl rfl ?aO ?aR (fun _ _ h => h) (fun _ h => h.elim) ?aF ?aB ?aS ?aL ?_; (case aR => repeat (first | exact (Kd.V_reads' HO1.out).2.2 | (with_reducible refine Kd.C_alloc ?_ _) | (with_reducible refine Kd.C_drewN ?_ _) | (with_reducible refine Kd.C_drew ?_))); (case aB => exact (bl HB)); (case aF => exact (fun k_ hk => (Nat.le_trans (below_size (bl HB)) hk))); (case aO => exact (by exact rA (Kd.R_mono HO279.out (fun _ hk => hk.1)))); (case aS => exact (below_size (bl HB))); (case aL => have := LMc4.out; omega); intro v281 wq2 ho hb hg hat; rw [← Ny280.out] at ho; replace HO0 := aS (Kd.V_afterv (ok := (fun k_ => ((P0_ k_ ∨ P1_ k_) ∨ w.heap.size ≤ k_))) (by exact vA HO0.out) hg hat); replace HO1 := aS (Kd.V_afterv (ok := (fun k_ => ((P0_ k_ ∨ P1_ k_) ∨ w.heap.size ≤ k_))) (by exact vA HO1.out) hg hat); replace HB := aS (hb); have HO282 := aS (ho); clear HO279; clear ho hb hg hat) | ((with_reducible refine gate_dst (N := 17) rfl ?_); refine Kd.R_lit (Kd.int .u32) _ 145 ?hg (N := 17) ?hd (xs := ([] : List Int)) (inner := []) (ok := fun _ => True) (okp := fun _ => True) ?hr ?hp (fun _ hk => hk) trivial (Below.refl _ _) (Nat.le_refl _) (by simp) ?_; (case hd => rfl); (case hg => rfl); (case hr => first | (go_simp; done) | (go_simp; rfl)); (case hp => exact (Reps.none _ _)); intro v284 wq1 ho11 hb hg_ hnew_; clear hg_ hnew_; (first | rw [← Ny283.out] at ho11 | (simp only [Int.reduceToNat] at ho11; rw [← Ny283.out] at ho11)); replace HO0 := aS (Kd.V_elder' (by exact vA HO0.out) (Kd.R_base ho11) hb); replace HO1 := aS (Kd.V_elder' (by exact vA HO1.out) (Kd.R_base ho11) hb); have HO285 := aS (Kd.R_lower (Kd.R_newM (M := fun k_ => (w.heap.size ≤ k_)) ho11 (below_size (bl HB)) (fun k_ h_ => h_)) (below_size (bl HB))); replace HB := aS (bs_ (bl HB) hb); clear hb ho11) | ((with_reducible refine gate_builtin (b := .append) (xs := #[.tmp 17, .tmp 18]) rfl ?_); at_builtin; refine Kd.R_append_rows (Kd.int .u32) (w0 := w) w.heap.size rfl (.tmp 17) (.tmp 18) 59 145 (.int .u32 0) 4 rfl Tryz.underlying59 info145 rfl (by decide) (by omega) v284 y283 l0 _ _ _ (fun k_ => (w.heap.size ≤ k_)) (fun _ => False) rfl rfl ?aO ?aR (fun _ _ h => h) (fun _ h => h.elim) ?aF ?aB ?aS ?aL ?_; (case aR => repeat (first | exact (Kd.V_reads' HO0.out).2.2 | (with_reducible refine Kd.C_alloc ?_ _) | (with_reducible refine Kd.C_drewN ?_ _) | (with_reducible refine Kd.C_drew ?_))); (case aB => exact (bl HB)); (case aF => exact (fun k_ hk => (Nat.le_trans (below_size (bl HB)) hk))); (case aO => exact (by exact rA (Kd.R_mono HO285.out (fun _ hk => hk.1)))); (case aS => exact (below_size (bl HB))); (case aL => have := LMc9.out; omega); intro v287 wq2 ho hb hg hat; rw [← Ny286.out] at ho; replace HO0 := aS (Kd.V_afterv (ok := (fun k_ => ((P0_ k_ ∨ P1_ k_) ∨ w.heap.size ≤ k_))) (by exact vA HO0.out) hg hat); replace HO1 := aS (Kd.V_afterv (ok := (fun k_ => ((P0_ k_ ∨ P1_ k_) ∨ w.heap.size ≤ k_))) (by exact vA HO1.out) hg hat); replace HB := aS (hb); have HO288 := aS (ho); clear HO285; clear ho hb hg hat)))
 ·go_ret
  exact ⟨_, re, by exact rA HO282.out, bl HB⟩
 ·go_ret
  exact ⟨_, re, by exact rA HO288.out, bl HB⟩
end Go.Proofs.YtbkknoipgmlcmaaGreatDoor.P

