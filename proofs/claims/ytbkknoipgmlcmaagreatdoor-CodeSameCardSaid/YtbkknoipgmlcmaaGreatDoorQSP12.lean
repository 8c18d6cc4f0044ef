import Derived.Test.YtbkknoipgmlcmaaGreatDoorQSXZ
import Derived.Test.YtbkknoipgmlcmaaGreatDoorQSP0
import Derived.Test.YtbkknoipgmlcmaaGreatDoorQSP6
import Derived.Test.YtbkknoipgmlcmaaGreatDoorQSHText
import Derived.Test.YtbkknoipgmlcmaaGreatDoorQSHChk
import Derived.Test.YtbkknoipgmlcmaaGreatDoorQSHByt
import Derived.Test.YtbkknoipgmlcmaaGreatDoorQSHPrs
import Derived.Test.YtbkknoipgmlcmaaGreatDoorQSG
namespace Go.Proofs.YtbkknoipgmlcmaaGreatDoor.P
open Go.RowKit Go.Proofs.YtbkknoipgmlcmaaGreatDoorW.PrintWords Go.Proofs.YtbkknoipgmlcmaaGreatDoorW.PrintLast Go.Proofs.YtbkknoipgmlcmaaGreatDoorW.PrintMore
open Go.Proofs.FX
attribute [local go_sem] cell_twice le_add_cast
attribute [local go_sem] max2_int min2_int max_two min_two max_three min_three max_four min_four
set_option linter.unusedVariables false
set_option linter.unusedSimpArgs false
def fluxionlaw29_square.f  : Option ((List (S50))) := (some (([(⟨1, ([] : List Int)⟩ : S115)] : List (S115)) : List (S115))).bind fun y264 => (some (([(⟨(⟨#[102]⟩ : ByteArray), y264, y264, 2, (([(⟨8, 1, 0, 0, (⟨0, false, ([] : List Int), ([] : List Int)⟩ : S61)⟩ : S63), (⟨26, 1, 0, 0, (⟨0, false, ([] : List Int), ([] : List Int)⟩ : S61)⟩ : S63)] : List (S63)))⟩ : S50)] : List (S50))))
set_option maxHeartbeats 8000000 in
set_option maxRecDepth 100000 in
theorem fluxionlaw29_square.calls  (r : List (S50)) (w : World) (h : fluxionlaw29_square.f  = some r) :
  Calls Tryz.prog 38 #[] w fun e w' => ∃ v0_ : Value, e = .returned (v0_) ∧ Kd.N k50 50 w' w.heap.size (fun k_ => (w.heap.size ≤ k_)) v0_ r ∧ Below w.heap.size w w' := by
 have hu115 := Tryz.underlying115
 have hu63 := Tryz.underlying63
 have hu50 := Tryz.underlying50
 have HB := Aside0.mk (Below.refl w.heap.size w)
 have H : ((some (([(⟨1, ([] : List Int)⟩ : S115)] : List (S115)) : List (S115))).bind fun y264 => (some (([(⟨(⟨#[102]⟩ : ByteArray), y264, y264, 2, (([(⟨8, 1, 0, 0, (⟨0, false, ([] : List Int), ([] : List Int)⟩ : S61)⟩ : S63), (⟨26, 1, 0, 0, (⟨0, false, ([] : List Int), ([] : List Int)⟩ : S61)⟩ : S63)] : List (S63)))⟩ : S50)] : List (S50))))) = some r := h
 clear h
 obtain ⟨y264, hy264⟩ : ∃ y_ : List (S115), y_ = (([(⟨1, ([] : List Int)⟩ : S115)] : List (S115))) := ⟨_, rfl⟩
 replace H : (some (([(⟨(⟨#[102]⟩ : ByteArray), y264, y264, 2, (([(⟨8, 1, 0, 0, (⟨0, false, ([] : List Int), ([] : List Int)⟩ : S61)⟩ : S63), (⟨26, 1, 0, 0, (⟨0, false, ([] : List Int), ([] : List Int)⟩ : S61)⟩ : S63)] : List (S63)))⟩ : S50)] : List (S50)))) = some r := by first | (rw [hy264]; with_reducible exact H) | (have H2_ := (Option.bind_some _ _).symm.trans H; rw [hy264]; with_reducible exact H2_) | (have H2_ := (Option.bind_some _ _).symm.trans H; with_reducible exact H2_) | with_reducible exact H | (rw [hy264]; exact H) | exact H
 have Ny264 := Aside0.mk hy264
 clear hy264
 obtain ⟨y267, hy267⟩ : ∃ y_ : List (S63), y_ = (([(⟨8, 1, 0, 0, (⟨0, false, ([] : List Int), ([] : List Int)⟩ : S61)⟩ : S63), (⟨26, 1, 0, 0, (⟨0, false, ([] : List Int), ([] : List Int)⟩ : S61)⟩ : S63)] : List (S63))) := ⟨_, rfl⟩
 replace H : (some (([(⟨(⟨#[102]⟩ : ByteArray), y264, y264, 2, y267⟩ : S50)] : List (S50)))) = some r := by first | (rw [hy267]; with_reducible exact H) | (have H2_ := (Option.bind_some _ _).symm.trans H; rw [hy267]; with_reducible exact H2_) | (have H2_ := (Option.bind_some _ _).symm.trans H; with_reducible exact H2_) | with_reducible exact H | (rw [hy267]; exact H) | exact H
 have Ny267 := Aside0.mk hy267
 clear hy267
 obtain ⟨y270, hy270⟩ : ∃ y_ : List (S50), y_ = (([(⟨(⟨#[102]⟩ : ByteArray), y264, y264, 2, y267⟩ : S50)] : List (S50))) := ⟨_, rfl⟩
 replace H : (some y270) = some r := by first | (rw [hy270]; with_reducible exact H) | (have H2_ := (Option.bind_some _ _).symm.trans H; rw [hy270]; with_reducible exact H2_) | (have H2_ := (Option.bind_some _ _).symm.trans H; with_reducible exact H2_) | with_reducible exact H | (rw [hy270]; exact H) | exact H
 have Ny270 := Aside0.mk hy270
 clear hy270
 obtain rfl := Option.some.inj H
 go_enter Tryz.func38, Tryz.ntmps38
 go_wp2_with (first | ((with_reducible refine gate_dst (N := 3) rfl ?_); refine Kd.N_lit k115 _ 115 ?hg (N' := 3) ?hd (xs := ([(⟨1, ([] : List Int)⟩ : S115)] : List (S115))) (inner := [.int .i64 1, .slice none 0 0]) (ok := (fun k_ => (w.heap.size ≤ k_))) (okp := (fun k_ => (w.heap.size ≤ k_))) ?hr ?hp (fun _ hk => hk) ((show ∀ k_, w.heap.size ≤ k_ → (fun k_ => (w.heap.size ≤ k_)) k_ from fun k_ hk => (Nat.le_trans (below_size (bl HB)) hk)) _ (Nat.le_refl _)) (Below.refl _ _) (Nat.le_refl _) (by simp) ?_; (case hd => rfl); (case hg => rfl); (case hr => first | (go_simp; done) | (go_simp; rfl)); (case hp => exact (Reps.c2 (show Kd.FK k115 _ _ (⟨1, ([] : List Int)⟩ : S115) [.int .i64 1, .slice none 0 0] from (k115_mkF _ _ (⟨1, ([] : List Int)⟩ : S115) (Nat.le_refl _) (Kd.F_nil _ _ _))) (Reps.none _ _))); intro v265 w1 ho2 hb hg_ hnew_; clear hg_ hnew_; (first | rw [← Ny264.out] at ho2 | (simp only [Int.reduceToNat] at ho2; rw [← Ny264.out] at ho2)); have HO266 := Aside0.mk (Kd.N_lower ho2 (below_size (bl HB))); replace HB := Aside0.mk (below_step (bl HB) hb); clear hb ho2) | ((with_reducible refine gate_dst (N := 8) rfl ?_); refine Kd.N_lit k63 _ 63 ?hg (N' := 8) ?hd (xs := ([(⟨8, 1, 0, 0, (⟨0, false, ([] : List Int), ([] : List Int)⟩ : S61)⟩ : S63), (⟨26, 1, 0, 0, (⟨0, false, ([] : List Int), ([] : List Int)⟩ : S61)⟩ : S63)] : List (S63))) (inner := [.int .i64 8, .int .i64 1, .int .i64 0, .int .i64 0, .int .i64 0, .bool false, .slice none 0 0, .slice none 0 0, .int .i64 26, .int .i64 1, .int .i64 0, .int .i64 0, .int .i64 0, .bool false, .slice none 0 0, .slice none 0 0]) (ok := (fun k_ => (w.heap.size ≤ k_) ∧ some k_ ≠ (v265 : Value).ownBlock)) (okp := (fun k_ => (w.heap.size ≤ k_) ∧ some k_ ≠ (v265 : Value).ownBlock)) ?hr ?hp (fun _ hk => hk) ((show ∀ k_, w1.heap.size ≤ k_ → (fun k_ => (w.heap.size ≤ k_) ∧ some k_ ≠ (v265 : Value).ownBlock) k_ from fun k_ hk => ⟨(Nat.le_trans (below_size (bl HB)) hk), Kd.fresh' (Kd.N_lt (by (with_reducible repeat (first | apply Kd.N_alloc | apply Kd.N_drewN | apply Kd.N_drew)); exact HO266.out)) k_ hk⟩) _ (Nat.le_refl _)) (Below.refl _ _) (Nat.le_refl _) (by simp) ?_; (case hd => rfl); (case hg => rfl); (case hr => first | (go_simp; done) | (go_simp; rfl)); (case hp => exact (Reps.c8 (show Kd.FK k63 _ _ (⟨8, 1, 0, 0, (⟨0, false, ([] : List Int), ([] : List Int)⟩ : S61)⟩ : S63) [.int .i64 8, .int .i64 1, .int .i64 0, .int .i64 0, .int .i64 0, .bool false, .slice none 0 0, .slice none 0 0] from (k63_mkF _ _ (⟨8, 1, 0, 0, (⟨0, false, ([] : List Int), ([] : List Int)⟩ : S61)⟩ : S63) (Nat.le_refl _) (Kd.F_nil _ _ _) (Nat.le_refl _) (Kd.F_nil _ _ _))) (Reps.c8 (show Kd.FK k63 _ _ (⟨26, 1, 0, 0, (⟨0, false, ([] : List Int), ([] : List Int)⟩ : S61)⟩ : S63) [.int .i64 26, .int .i64 1, .int .i64 0, .int .i64 0, .int .i64 0, .bool false, .slice none 0 0, .slice none 0 0] from (k63_mkF _ _ (⟨26, 1, 0, 0, (⟨0, false, ([] : List Int), ([] : List Int)⟩ : S61)⟩ : S63) (Nat.le_refl _) (Kd.F_nil _ _ _) (Nat.le_refl _) (Kd.F_nil _ _ _))) (Reps.none _ _)))); intro v268 w3 ho4 hb hg_ hnew_; clear hg_ hnew_; (first | rw [← Ny267.out] at ho4 | (simp only [Int.reduceToNat] at ho4; rw [← Ny267.out] at ho4)); replace HO266 := Aside0.mk (Kd.N_elder' (by (with_reducible repeat (first | apply Kd.N_alloc | apply Kd.N_drewN | apply Kd.N_drew)); exact HO266.out) (Kd.N_base ho4) hb); have HO269 := Aside0.mk (Kd.N_lower ho4 (below_size (bl HB))); replace HB := Aside0.mk (below_step (bl HB) hb); clear hb ho4; obtain ⟨Ao5, co5, eo5⟩ := Kd.N_slice HO269.out; subst eo5; obtain ⟨Ao6, co6, eo6⟩ := Kd.N_slice HO266.out; subst eo6) | ((with_reducible refine gate_dst (N := 10) rfl ?_); refine Kd.N_lit k50 _ 50 ?hg (N' := 10) ?hd (xs := ([(⟨(⟨#[102]⟩ : ByteArray), y264, y264, 2, y267⟩ : S50)] : List (S50))) (inner := [.string (⟨#[102]⟩ : ByteArray), .slice Ao6 y264.length co6, .slice Ao6 y264.length co6, .int .i64 2, .slice Ao5 y267.length co5]) (ok := (fun k_ => (w.heap.size ≤ k_))) (okp := (fun k_ => (w.heap.size ≤ k_))) ?hr ?hp (fun _ hk => hk) ((show ∀ k_, w3.heap.size ≤ k_ → (fun k_ => (w.heap.size ≤ k_)) k_ from fun k_ hk => (Nat.le_trans (below_size (bl HB)) hk)) _ (Nat.le_refl _)) (Below.refl _ _) (Nat.le_refl _) (by simp) ?_; (case hd => rfl); (case hg => rfl); (case hr => first | (go_simp; done) | (go_simp; rfl)); (case hp => exact (Reps.c5 (show Kd.FK k50 _ _ (⟨(⟨#[102]⟩ : ByteArray), y264, y264, 2, y267⟩ : S50) [.string (⟨#[102]⟩ : ByteArray), .slice Ao6 y264.length co6, .slice Ao6 y264.length co6, .int .i64 2, .slice Ao5 y267.length co5] from (k50_mkF _ _ (⟨(⟨#[102]⟩ : ByteArray), y264, y264, 2, y267⟩ : S50) (Kd.N_reads' (Kd.N_mono (ok' := (fun k_ => (w.heap.size ≤ k_))) (HO266.out) (fun k_ hk => hk.1))).2.1 (Kd.N_F (Kd.N_mono (ok' := (fun k_ => (w.heap.size ≤ k_))) (HO266.out) (fun k_ hk => hk.1))) (Kd.N_reads' (Kd.N_mono (ok' := (fun k_ => (w.heap.size ≤ k_))) (HO266.out) (fun k_ hk => hk.1))).2.1 (Kd.N_F (Kd.N_mono (ok' := (fun k_ => (w.heap.size ≤ k_))) (HO266.out) (fun k_ hk => hk.1))) (Kd.N_reads' (Kd.N_mono (ok' := (fun k_ => (w.heap.size ≤ k_))) (HO269.out) (fun k_ hk => hk.1))).2.1 (Kd.N_F (Kd.N_mono (ok' := (fun k_ => (w.heap.size ≤ k_))) (HO269.out) (fun k_ hk => hk.1))))) (Reps.none _ _))); intro v271 w7 ho8 hb hg_ hnew_; clear hg_ hnew_; (first | rw [← Ny270.out] at ho8 | (simp only [Int.reduceToNat] at ho8; rw [← Ny270.out] at ho8)); have n0_ := Aside0.mk (Kd.N_lower ho8 (below_size (bl HB))); have n1_ := Aside0.mk (below_step (bl HB) hb); clear HB; clear HO266; clear HO269; have HO272 := n0_; have HB := n1_; clear n0_ n1_; clear hb ho8))
 go_ret
 exact ⟨_, re, by (with_reducible repeat (first | apply Kd.N_alloc | apply Kd.N_drewN | apply Kd.N_drew)); exact HO272.out, bl HB⟩
def fluxionlaw29_alive.f (k : Nat)  : Option (Bool) := (fluxionlaw29_square.f).bind fun t273 => ((code_Text.f t273).bind fun bt276 => ((fluxionlaw29_square.f).bind fun t278 => ((code_Bytes.f t278).bind fun bt281 => ((code_Parse.f bt281.1).bind fun bt285 => (if bt276.2 = 0 then (if bt276.1.toList = ([114, 111, 117, 116, 105, 110, 101, 32, 102, 40, 114, 101, 97, 108, 41, 32, 40, 114, 101, 97, 108, 41, 32, 50, 10, 32, 32, 109, 117, 108, 32, 49, 32, 48, 32, 48, 10, 32, 32, 114, 101, 116, 117, 114, 110, 32, 49, 10] : List UInt8) then (if bt281.2 = 0 then (if bt285.2.2 = 0 then ((fluxionlaw29_square.f).bind fun t290 => ((fluxionref29_Same.f k bt285.1 t290).bind fun t293 => (if t293 = true then ((fluxionlaw29_square.f).bind fun t294 => ((code_IsCode.f t294).bind fun t297 => (some t297))) else (some false)))) else (some false)) else (some false)) else (some false)) else (some false))))))
theorem fluxionlaw29_alive.mono : ∀ k, LeO (fluxionlaw29_alive.f k ) (fluxionlaw29_alive.f (k + 1) ) := by
 intro  k
 unfold fluxionlaw29_alive.f
 repeat' first
   | (with_reducible exact fluxionref29_Same.mono _ _ _)
   | (with_reducible exact LeO.refl _)
   | (with_reducible exact LeO.none _)
   | (with_reducible refine LeO.ite ?_ ?_)
   | (with_reducible refine LeO.bind ?_ (fun _ => ?_))
   | exact fluxionref29_Same.mono _ _ _
   | exact LeO.none _
   | refine LeO.ite ?_ ?_
   | refine LeO.bind ?_ (fun _ => ?_)
set_option maxHeartbeats 8000000 in
set_option maxRecDepth 100000 in
theorem fluxionlaw29_alive.calls (k : Nat)  (r : Bool) (w : World) (hG : GW w) (h : fluxionlaw29_alive.f k  = some r) :
  Calls Tryz.prog 16 #[] w fun e w' => e = .returned (.bool r) ∧ Below w.heap.size w w' := by
 have HG := Aside0.mk hG
 clear hG
 have HB := Aside0.mk (Below.refl w.heap.size w)
 have H : ((fluxionlaw29_square.f).bind fun t273 => ((code_Text.f t273).bind fun bt276 => ((fluxionlaw29_square.f).bind fun t278 => ((code_Bytes.f t278).bind fun bt281 => ((code_Parse.f bt281.1).bind fun bt285 => (if bt276.2 = 0 then (if bt276.1.toList = ([114, 111, 117, 116, 105, 110, 101, 32, 102, 40, 114, 101, 97, 108, 41, 32, 40, 114, 101, 97, 108, 41, 32, 50, 10, 32, 32, 109, 117, 108, 32, 49, 32, 48, 32, 48, 10, 32, 32, 114, 101, 116, 117, 114, 110, 32, 49, 10] : List UInt8) then (if bt281.2 = 0 then (if bt285.2.2 = 0 then ((fluxionlaw29_square.f).bind fun t290 => ((fluxionref29_Same.f k bt285.1 t290).bind fun t293 => (if t293 = true then ((fluxionlaw29_square.f).bind fun t294 => ((code_IsCode.f t294).bind fun t297 => (some t297))) else (some false)))) else (some false)) else (some false)) else (some false)) else (some false))))))) = some r := h
 clear h
 replace H := Option.bind_eq_some_iff.mp H
 obtain ⟨t273, A10, H⟩ := H
 (try dsimp only at H)
 have A1 := Aside0.mk A10
 clear A10
 replace H := Option.bind_eq_some_iff.mp H
 obtain ⟨⟨t276, t277⟩, A20, H⟩ := H
 (try dsimp only at H)
 have A2 := Aside0.mk A20
 clear A20
 replace H := Option.bind_eq_some_iff.mp H
 obtain ⟨t278, A30, H⟩ := H
 (try dsimp only at H)
 have A3 := Aside0.mk A30
 clear A30
 replace H := Option.bind_eq_some_iff.mp H
 obtain ⟨⟨t281, t282⟩, A40, H⟩ := H
 (try dsimp only at H)
 have A4 := Aside0.mk A40
 clear A40
 replace H := Option.bind_eq_some_iff.mp H
 obtain ⟨⟨t285, t286, t287⟩, A50, H⟩ := H
 (try dsimp only at H)
 have A5 := Aside0.mk A50
 clear A50
 by_cases c6 : t277 = 0
 focus
  rw [if_pos c6] at H
  have c6b0 : (t277 == 0) = true := beq_iff_eq.mpr c6
  have c6b1 : (t277 != 0) = false := bne_eq_false_iff_eq.mpr c6
  clear c6
  by_cases c7 : t276.toList = ([114, 111, 117, 116, 105, 110, 101, 32, 102, 40, 114, 101, 97, 108, 41, 32, 40, 114, 101, 97, 108, 41, 32, 50, 10, 32, 32, 109, 117, 108, 32, 49, 32, 48, 32, 48, 10, 32, 32, 114, 101, 116, 117, 114, 110, 32, 49, 10] : List UInt8)
  focus
   rw [if_pos c7] at H
   have c7b0 : (t276.toList == ([114, 111, 117, 116, 105, 110, 101, 32, 102, 40, 114, 101, 97, 108, 41, 32, 40, 114, 101, 97, 108, 41, 32, 50, 10, 32, 32, 109, 117, 108, 32, 49, 32, 48, 32, 48, 10, 32, 32, 114, 101, 116, 117, 114, 110, 32, 49, 10] : List UInt8)) = true := beq_iff_eq.mpr c7
   have c7b1 : (t276.toList != ([114, 111, 117, 116, 105, 110, 101, 32, 102, 40, 114, 101, 97, 108, 41, 32, 40, 114, 101, 97, 108, 41, 32, 50, 10, 32, 32, 109, 117, 108, 32, 49, 32, 48, 32, 48, 10, 32, 32, 114, 101, 116, 117, 114, 110, 32, 49, 10] : List UInt8)) = false := bne_eq_false_iff_eq.mpr c7
   clear c7
   by_cases c8 : t282 = 0
   focus
    rw [if_pos c8] at H
    have c8b0 : (t282 == 0) = true := beq_iff_eq.mpr c8
    have c8b1 : (t282 != 0) = false := bne_eq_false_iff_eq.mpr c8
    clear c8
    by_cases c9 : t287 = 0
    focus
     rw [if_pos c9] at H
     have c9b0 : (t287 == 0) = true := beq_iff_eq.mpr c9
     have c9b1 : (t287 != 0) = false := bne_eq_false_iff_eq.mpr c9
     clear c9
     replace H := Option.bind_eq_some_iff.mp H
     obtain ⟨t290, A100, H⟩ := H
     (try dsimp only at H)
     have A10 := Aside0.mk A100
     clear A100
     replace H := Option.bind_eq_some_iff.mp H
     obtain ⟨t293, A110, H⟩ := H
     (try dsimp only at H)
     have A11 := Aside0.mk A110
     clear A110
     by_cases c12 : t293 = true
     focus
      subst c12
      have H1 : ((fluxionlaw29_square.f).bind fun t294 => ((code_IsCode.f t294).bind fun t297 => (some t297))) = some r := by rw [if_pos rfl] at H; exact H
      clear H
      have H := H1
      clear H1
      replace H := Option.bind_eq_some_iff.mp H
      obtain ⟨t294, A130, H⟩ := H
      (try dsimp only at H)
      have A13 := Aside0.mk A130
      clear A130
      replace H := Option.bind_eq_some_iff.mp H
      obtain ⟨t297, A140, H⟩ := H
      (try dsimp only at H)
      have A14 := Aside0.mk A140
      clear A140
      obtain rfl := Option.some.inj H
     rotate_left 1
     focus
      replace c12 := Bool.eq_false_iff.mpr c12
      subst c12
      have H1 : (some false) = some r := by rw [if_neg (show ¬ (false = true) by decide)] at H; exact H
      clear H
      have H := H1
      clear H1
      obtain rfl := Option.some.inj H
     rotate_left 1
    rotate_left 2
    focus
     rw [if_neg c9] at H
     have c9b0 : (t287 == 0) = false := beq_eq_false_iff_ne.mpr c9
     have c9b1 : (t287 != 0) = true := bne_iff_ne.mpr c9
     obtain rfl := Option.some.inj H
    rotate_left 1
   rotate_left 3
   focus
    rw [if_neg c8] at H
    have c8b0 : (t282 == 0) = false := beq_eq_false_iff_ne.mpr c8
    have c8b1 : (t282 != 0) = true := bne_iff_ne.mpr c8
    obtain rfl := Option.some.inj H
   rotate_left 1
  rotate_left 4
  focus
   rw [if_neg c7] at H
   have c7b0 : (t276.toList == ([114, 111, 117, 116, 105, 110, 101, 32, 102, 40, 114, 101, 97, 108, 41, 32, 40, 114, 101, 97, 108, 41, 32, 50, 10, 32, 32, 109, 117, 108, 32, 49, 32, 48, 32, 48, 10, 32, 32, 114, 101, 116, 117, 114, 110, 32, 49, 10] : List UInt8)) = false := beq_eq_false_iff_ne.mpr c7
   have c7b1 : (t276.toList != ([114, 111, 117, 116, 105, 110, 101, 32, 102, 40, 114, 101, 97, 108, 41, 32, 40, 114, 101, 97, 108, 41, 32, 50, 10, 32, 32, 109, 117, 108, 32, 49, 32, 48, 32, 48, 10, 32, 32, 114, 101, 116, 117, 114, 110, 32, 49, 10] : List UInt8)) = true := bne_iff_ne.mpr c7
   obtain rfl := Option.some.inj H
  rotate_left 1
 rotate_left 5
 focus
  rw [if_neg c6] at H
  have c6b0 : (t277 == 0) = false := beq_eq_false_iff_ne.mpr c6
  have c6b1 : (t277 != 0) = true := bne_iff_ne.mpr c6
  obtain rfl := Option.some.inj H
 rotate_left 1
 all_goals (go_enter Tryz.func16, Tryz.ntmps16)
 all_goals (go_wp2_with (first | ((with_reducible refine gate_callee (f := 38) rfl ?_); refine gl 9 Tryz.func38 #[] ?_; (with_reducible refine (fluxionlaw29_square.calls  t273 _ A1.out).mono ?_); rintro e wq1 ⟨v274, rfl, ho0, hb⟩; refine ⟨_, rfl, ?_⟩; have HO275 := Aside0.mk (Kd.N_lower (Kd.N_mono (ok' := fun k_ => True) ho0 (fun k_ hk_ => trivial)) (below_size (bl HB))); replace HB := Aside0.mk (below_step (bl HB) hb); clear hb ho0; obtain ⟨Aoq1, coq1, eoq1⟩ := Kd.N_slice HO275.out; subst eoq1) | ((with_reducible refine gate_callee (f := 18) rfl ?_); refine gl 10 Tryz.func18 #[.slice Aoq1 t273.length coq1] ?_; (with_reducible refine (code_Text.calls _ _ t273 t276 t277 _ ?side1 ?side2 ?side3 A2.out).mono ?_); (case side1 => exact GW.below HG.out (bl HB)); (case side2 => repeat (first | exact (Kd.N_reads' HO275.out).2.2 | (with_reducible refine Kd.C_alloc ?_ _) | (with_reducible refine Kd.C_drewN ?_ _) | (with_reducible refine Kd.C_drew ?_))); (case side3 => exact (Kd.N_reads' HO275.out).2.1); rintro e wq2 ⟨rfl, hb⟩; refine ⟨_, rfl, ?_⟩; replace HO275 := Aside0.mk (Kd.N_below (by (with_reducible repeat (first | apply Kd.N_alloc | apply Kd.N_drewN | apply Kd.N_drew)); exact HO275.out) hb); replace HB := Aside0.mk (below_step (bl HB) hb); clear hb) | ((with_reducible refine gate_callee (f := 38) rfl ?_); refine gl 14 Tryz.func38 #[] ?_; (with_reducible refine (fluxionlaw29_square.calls  t278 _ A3.out).mono ?_); rintro e wq3 ⟨v279, rfl, ho0, hb⟩; refine ⟨_, rfl, ?_⟩; have n0_ := Aside0.mk (Kd.N_elder' (by (with_reducible repeat (first | apply Kd.N_alloc | apply Kd.N_drewN | apply Kd.N_drew)); exact HO275.out) (Kd.N_base ho0) hb); have n1_ := Aside0.mk (Kd.N_lower (Kd.N_mono (ok' := fun k_ => some k_ ≠ (.slice Aoq1 t273.length coq1 : Value).ownBlock) ho0 (fun k_ hk_ => (Kd.fresh' (Kd.N_lt (by (with_reducible repeat (first | apply Kd.N_alloc | apply Kd.N_drewN | apply Kd.N_drew)); exact HO275.out)) k_ hk_))) (below_size (bl HB))); have n2_ := Aside0.mk (below_step (bl HB) hb); clear HO275; clear HB; have HO275 := n0_; have HO280 := n1_; have HB := n2_; clear n0_ n1_ n2_; clear hb ho0; obtain ⟨Aoq2, coq2, eoq2⟩ := Kd.N_slice HO280.out; subst eoq2) | ((with_reducible refine gate_callee (f := 17) rfl ?_); refine gl 15 Tryz.func17 #[.slice Aoq2 t278.length coq2] ?_; (with_reducible refine (code_Bytes.calls _ _ t278 t281 t282 _ ?side1 ?side2 ?side3 A4.out).mono ?_); (case side1 => exact GW.below HG.out (bl HB)); (case side2 => repeat (first | exact (Kd.N_reads' HO280.out).2.2 | (with_reducible refine Kd.C_alloc ?_ _) | (with_reducible refine Kd.C_drewN ?_ _) | (with_reducible refine Kd.C_drew ?_))); (case side3 => exact (Kd.N_reads' HO280.out).2.1); rintro e wq4 ⟨v283, rfl, ho0, hb⟩; refine ⟨_, rfl, ?_⟩; replace HO275 := Aside0.mk (Kd.N_elder' (by (with_reducible repeat (first | apply Kd.N_alloc | apply Kd.N_drewN | apply Kd.N_drew)); exact HO275.out) (Kd.R_base ho0) hb); replace HO280 := Aside0.mk (Kd.N_elder' (by (with_reducible repeat (first | apply Kd.N_alloc | apply Kd.N_drewN | apply Kd.N_drew)); exact HO280.out) (Kd.R_base ho0) hb); have HO284 := Aside0.mk (Kd.R_lower ho0 (below_size (bl HB))); replace HB := Aside0.mk (below_step (bl HB) hb); clear hb ho0; obtain ⟨Aoq3, coq3, eoq3⟩ := Kd.R_slice HO284.out; subst eoq3) | ((with_reducible refine gate_callee (f := 22) rfl ?_); refine gl 20 Tryz.func22 #[.slice Aoq3 t281.length coq3] ?_; (with_reducible refine (code_Parse.calls _ _ t281 t285 t286 t287 _ ?side1 ?side2 ?side3 A5.out).mono ?_); (case side1 => exact GW.below HG.out (bl HB)); (case side2 => repeat (first | exact (Kd.R_reads' HO284.out).2.2 | (with_reducible refine Kd.C_alloc ?_ _) | (with_reducible refine Kd.C_drewN ?_ _) | (with_reducible refine Kd.C_drew ?_))); (case side3 => exact (Kd.R_reads' HO284.out).2.1); rintro e wq5 ⟨v288, rfl, ho0, hb⟩; refine ⟨_, rfl, ?_⟩; have n0_ := Aside0.mk (Kd.N_elder' (by (with_reducible repeat (first | apply Kd.N_alloc | apply Kd.N_drewN | apply Kd.N_drew)); exact HO275.out) (Kd.R_base ho0) hb); have n1_ := Aside0.mk (Kd.N_elder' (by (with_reducible repeat (first | apply Kd.N_alloc | apply Kd.N_drewN | apply Kd.N_drew)); exact HO280.out) (Kd.R_base ho0) hb); have n2_ := Aside0.mk (Kd.R_below (by (with_reducible repeat (first | apply Kd.R_alloc | apply Kd.R_drewN | apply Kd.R_drew)); exact HO284.out) hb); have n3_ := Aside0.mk (Kd.N_lower (Kd.N_mono (ok' := fun k_ => some k_ ≠ (.slice Aoq1 t273.length coq1 : Value).ownBlock ∧ some k_ ≠ (.slice Aoq2 t278.length coq2 : Value).ownBlock ∧ some k_ ≠ (.slice Aoq3 t281.length coq3 : Value).ownBlock) (Kd.R_N (Kd.R_bound ho0)) (fun k_ hk_ => ⟨(Kd.fresh' (Kd.N_lt (by (with_reducible repeat (first | apply Kd.N_alloc | apply Kd.N_drewN | apply Kd.N_drew)); exact HO275.out)) k_ hk_.2.1), (Kd.fresh' (Kd.N_lt (by (with_reducible repeat (first | apply Kd.N_alloc | apply Kd.N_drewN | apply Kd.N_drew)); exact HO280.out)) k_ hk_.2.1), (Kd.fresh' (Kd.R_lt (by (with_reducible repeat (first | apply Kd.R_alloc | apply Kd.R_drewN | apply Kd.R_drew)); exact HO284.out)) k_ hk_.2.1)⟩)) (below_size (bl HB))); have n4_ := Aside0.mk (below_step (bl HB) hb); clear HO275; clear HO280; clear HO284; clear HB; have HO275 := n0_; have HO280 := n1_; have HO284 := n2_; have HO289 := n3_; have HB := n4_; clear n0_ n1_ n2_ n3_ n4_; clear hb ho0) | (go_at_call 38; (with_reducible refine (fluxionlaw29_square.calls  t290 _ A10.out).mono ?_); rintro e wq6 ⟨v291, rfl, ho0, hb⟩; have n0_ := Aside0.mk (Kd.N_elder' (by (with_reducible repeat (first | apply Kd.N_alloc | apply Kd.N_drewN | apply Kd.N_drew)); exact HO275.out) (Kd.N_base ho0) hb); have n1_ := Aside0.mk (Kd.N_elder' (by (with_reducible repeat (first | apply Kd.N_alloc | apply Kd.N_drewN | apply Kd.N_drew)); exact HO280.out) (Kd.N_base ho0) hb); have n2_ := Aside0.mk (Kd.R_below (by (with_reducible repeat (first | apply Kd.R_alloc | apply Kd.R_drewN | apply Kd.R_drew)); exact HO284.out) hb); have n3_ := Aside0.mk (Kd.N_elder' (by (with_reducible repeat (first | apply Kd.N_alloc | apply Kd.N_drewN | apply Kd.N_drew)); exact HO289.out) (Kd.N_base ho0) hb); have n4_ := Aside0.mk (Kd.N_lower (Kd.N_mono (ok' := fun k_ => some k_ ≠ (.slice Aoq1 t273.length coq1 : Value).ownBlock ∧ some k_ ≠ (.slice Aoq2 t278.length coq2 : Value).ownBlock ∧ some k_ ≠ (.slice Aoq3 t281.length coq3 : Value).ownBlock ∧ some k_ ≠ (v288 : Value).ownBlock) ho0 (fun k_ hk_ => ⟨(Kd.fresh' (Kd.N_lt (by (with_reducible repeat (first | apply Kd.N_alloc | apply Kd.N_drewN | apply Kd.N_drew)); exact HO275.out)) k_ hk_), (Kd.fresh' (Kd.N_lt (by (with_reducible repeat (first | apply Kd.N_alloc | apply Kd.N_drewN | apply Kd.N_drew)); exact HO280.out)) k_ hk_), (Kd.fresh' (Kd.R_lt (by (with_reducible repeat (first | apply Kd.R_alloc | apply Kd.R_drewN | apply Kd.R_drew)); exact HO284.out)) k_ hk_), (Kd.fresh' (Kd.N_lt (by (with_reducible repeat (first | apply Kd.N_alloc | apply Kd.N_drewN | apply Kd.N_drew)); exact HO289.out)) k_ hk_)⟩)) (below_size (bl HB))); have n5_ := Aside0.mk (below_step (bl HB) hb); clear HO275; clear HO280; clear HO284; clear HO289; clear HB; have HO275 := n0_; have HO280 := n1_; have HO284 := n2_; have HO289 := n3_; have HO292 := n4_; have HB := n5_; clear n0_ n1_ n2_ n3_ n4_ n5_; clear hb ho0; obtain ⟨Aoq4, coq4, eoq4⟩ := Kd.N_slice HO289.out; subst eoq4; obtain ⟨Aoq5, coq5, eoq5⟩ := Kd.N_slice HO292.out; subst eoq5) | (go_at_call 15; (with_reducible refine (fluxionref29_Same.calls k _ _ t285 _ _ t290 true _ ?side1 ?side2 ?side3 ?side4 A11.out).mono ?_); (case side1 => repeat (first | exact (Kd.N_reads' HO289.out).2.2 | (with_reducible refine Kd.C_alloc ?_ _) | (with_reducible refine Kd.C_drewN ?_ _) | (with_reducible refine Kd.C_drew ?_))); (case side2 => exact (Kd.N_reads' HO289.out).2.1); (case side3 => repeat (first | exact (Kd.N_reads' HO292.out).2.2 | (with_reducible refine Kd.C_alloc ?_ _) | (with_reducible refine Kd.C_drewN ?_ _) | (with_reducible refine Kd.C_drew ?_))); (case side4 => exact (Kd.N_reads' HO292.out).2.1); rintro e wq7 ⟨rfl, hb⟩; replace HO275 := Aside0.mk (Kd.N_below (by (with_reducible repeat (first | apply Kd.N_alloc | apply Kd.N_drewN | apply Kd.N_drew)); exact HO275.out) hb); replace HO280 := Aside0.mk (Kd.N_below (by (with_reducible repeat (first | apply Kd.N_alloc | apply Kd.N_drewN | apply Kd.N_drew)); exact HO280.out) hb); replace HO284 := Aside0.mk (Kd.R_below (by (with_reducible repeat (first | apply Kd.R_alloc | apply Kd.R_drewN | apply Kd.R_drew)); exact HO284.out) hb); replace HO289 := Aside0.mk (Kd.N_below (by (with_reducible repeat (first | apply Kd.N_alloc | apply Kd.N_drewN | apply Kd.N_drew)); exact HO289.out) hb); replace HO292 := Aside0.mk (Kd.N_below (by (with_reducible repeat (first | apply Kd.N_alloc | apply Kd.N_drewN | apply Kd.N_drew)); exact HO292.out) hb); replace HB := Aside0.mk (below_step (bl HB) hb); clear hb) | (go_at_call 38; (with_reducible refine (fluxionlaw29_square.calls  t294 _ A13.out).mono ?_); rintro e wq8 ⟨v295, rfl, ho0, hb⟩; have n0_ := Aside0.mk (Kd.N_elder' (by (with_reducible repeat (first | apply Kd.N_alloc | apply Kd.N_drewN | apply Kd.N_drew)); exact HO275.out) (Kd.N_base ho0) hb); have n1_ := Aside0.mk (Kd.N_elder' (by (with_reducible repeat (first | apply Kd.N_alloc | apply Kd.N_drewN | apply Kd.N_drew)); exact HO280.out) (Kd.N_base ho0) hb); have n2_ := Aside0.mk (Kd.R_below (by (with_reducible repeat (first | apply Kd.R_alloc | apply Kd.R_drewN | apply Kd.R_drew)); exact HO284.out) hb); have n3_ := Aside0.mk (Kd.N_elder' (by (with_reducible repeat (first | apply Kd.N_alloc | apply Kd.N_drewN | apply Kd.N_drew)); exact HO289.out) (Kd.N_base ho0) hb); have n4_ := Aside0.mk (Kd.N_elder' (by (with_reducible repeat (first | apply Kd.N_alloc | apply Kd.N_drewN | apply Kd.N_drew)); exact HO292.out) (Kd.N_base ho0) hb); have n5_ := Aside0.mk (Kd.N_lower (Kd.N_mono (ok' := fun k_ => some k_ ≠ (.slice Aoq1 t273.length coq1 : Value).ownBlock ∧ some k_ ≠ (.slice Aoq2 t278.length coq2 : Value).ownBlock ∧ some k_ ≠ (.slice Aoq3 t281.length coq3 : Value).ownBlock ∧ some k_ ≠ (.slice Aoq4 t285.length coq4 : Value).ownBlock ∧ some k_ ≠ (.slice Aoq5 t290.length coq5 : Value).ownBlock) ho0 (fun k_ hk_ => ⟨(Kd.fresh' (Kd.N_lt (by (with_reducible repeat (first | apply Kd.N_alloc | apply Kd.N_drewN | apply Kd.N_drew)); exact HO275.out)) k_ hk_), (Kd.fresh' (Kd.N_lt (by (with_reducible repeat (first | apply Kd.N_alloc | apply Kd.N_drewN | apply Kd.N_drew)); exact HO280.out)) k_ hk_), (Kd.fresh' (Kd.R_lt (by (with_reducible repeat (first | apply Kd.R_alloc | apply Kd.R_drewN | apply Kd.R_drew)); exact HO284.out)) k_ hk_), (Kd.fresh' (Kd.N_lt (by (with_reducible repeat (first | apply Kd.N_alloc | apply Kd.N_drewN | apply Kd.N_drew)); exact HO289.out)) k_ hk_), (Kd.fresh' (Kd.N_lt (by (with_reducible repeat (first | apply Kd.N_alloc | apply Kd.N_drewN | apply Kd.N_drew)); exact HO292.out)) k_ hk_)⟩)) (below_size (bl HB))); have n6_ := Aside0.mk (below_step (bl HB) hb); clear HO275; clear HO280; clear HO284; clear HO289; clear HO292; clear HB; have HO275 := n0_; have HO280 := n1_; have HO284 := n2_; have HO289 := n3_; have HO292 := n4_; have HO296 := n5_; have HB := n6_; clear n0_ n1_ n2_ n3_ n4_ n5_ n6_; clear hb ho0; obtain ⟨Aoq6, coq6, eoq6⟩ := Kd.N_slice HO296.out; subst eoq6) | (go_at_call 13; (with_reducible refine (code_IsCode.calls _ _ t294 t297 _ ?side1 ?side2 ?side3 A14.out).mono ?_); (case side1 => exact GW.below HG.out (bl HB)); (case side2 => repeat (first | exact (Kd.N_reads' HO296.out).2.2 | (with_reducible refine Kd.C_alloc ?_ _) | (with_reducible refine Kd.C_drewN ?_ _) | (with_reducible refine Kd.C_drew ?_))); (case side3 => exact (Kd.N_reads' HO296.out).2.1); rintro e wq9 ⟨rfl, hb⟩; replace HO275 := Aside0.mk (Kd.N_below (by (with_reducible repeat (first | apply Kd.N_alloc | apply Kd.N_drewN | apply Kd.N_drew)); exact HO275.out) hb); replace HO280 := Aside0.mk (Kd.N_below (by (with_reducible repeat (first | apply Kd.N_alloc | apply Kd.N_drewN | apply Kd.N_drew)); exact HO280.out) hb); replace HO284 := Aside0.mk (Kd.R_below (by (with_reducible repeat (first | apply Kd.R_alloc | apply Kd.R_drewN | apply Kd.R_drew)); exact HO284.out) hb); replace HO289 := Aside0.mk (Kd.N_below (by (with_reducible repeat (first | apply Kd.N_alloc | apply Kd.N_drewN | apply Kd.N_drew)); exact HO289.out) hb); replace HO292 := Aside0.mk (Kd.N_below (by (with_reducible repeat (first | apply Kd.N_alloc | apply Kd.N_drewN | apply Kd.N_drew)); exact HO292.out) hb); replace HO296 := Aside0.mk (Kd.N_below (by (with_reducible repeat (first | apply Kd.N_alloc | apply Kd.N_drewN | apply Kd.N_drew)); exact HO296.out) hb); replace HB := Aside0.mk (below_step (bl HB) hb); clear hb) | (go_at_call 15; (with_reducible refine (fluxionref29_Same.calls k _ _ t285 _ _ t290 false _ ?side1 ?side2 ?side3 ?side4 A11.out).mono ?_); (case side1 => repeat (first | exact (Kd.N_reads' HO289.out).2.2 | (with_reducible refine Kd.C_alloc ?_ _) | (with_reducible refine Kd.C_drewN ?_ _) | (with_reducible refine Kd.C_drew ?_))); (case side2 => exact (Kd.N_reads' HO289.out).2.1); (case side3 => repeat (first | exact (Kd.N_reads' HO292.out).2.2 | (with_reducible refine Kd.C_alloc ?_ _) | (with_reducible refine Kd.C_drewN ?_ _) | (with_reducible refine Kd.C_drew ?_))); (case side4 => exact (Kd.N_reads' HO292.out).2.1); rintro e wq7 ⟨rfl, hb⟩; replace HO275 := Aside0.mk (Kd.N_below (by (with_reducible repeat (first | apply Kd.N_alloc | apply Kd.N_drewN | apply Kd.N_drew)); exact HO275.out) hb); replace HO280 := Aside0.mk (Kd.N_below (by (with_reducible repeat (first | apply Kd.N_alloc | apply Kd.N_drewN | apply Kd.N_drew)); exact HO280.out) hb); replace HO284 := Aside0.mk (Kd.R_below (by (with_reducible repeat (first | apply Kd.R_alloc | apply Kd.R_drewN | apply Kd.R_drew)); exact HO284.out) hb); replace HO289 := Aside0.mk (Kd.N_below (by (with_reducible repeat (first | apply Kd.N_alloc | apply Kd.N_drewN | apply Kd.N_drew)); exact HO289.out) hb); replace HO292 := Aside0.mk (Kd.N_below (by (with_reducible repeat (first | apply Kd.N_alloc | apply Kd.N_drewN | apply Kd.N_drew)); exact HO292.out) hb); replace HB := Aside0.mk (below_step (bl HB) hb); clear hb)))
 ·go_ret
  exact ⟨re, bl HB⟩
 ·go_ret
  exact ⟨re, bl HB⟩
 ·go_ret
  exact ⟨re, bl HB⟩
 ·go_ret
  exact ⟨re, bl HB⟩
 ·go_ret
  exact ⟨re, bl HB⟩
 ·go_ret
  exact ⟨re, bl HB⟩
def slices_Equal_int_int.l0 : Nat → List Int → List Int → Int → Int → Option (Bool)
 | 0, _, _, _, _ => none
 | k + 1, x0, x1, x12, x13 => if x13 < x12 then (if 0 ≤ x13 then (if x13 < (x0.length : Int) then (if x13 < (x1.length : Int) then (if (rd x0 x13) = (rd x1 x13) then (slices_Equal_int_int.l0 k x0 x1 x12 (wrap64 (x13 + 1))) else (some false)) else (none)) else (none)) else (none)) else (some true)
def slices_Equal_int_int.f (k : Nat) (l0 : List Int) (l1 : List Int) : Option (Bool) := if (l0.length : Int) = (l1.length : Int) then (slices_Equal_int_int.l0 k l0 l1 (l0.length : Int) 0) else (some false)
set_option maxHeartbeats 8000000 in
set_option maxRecDepth 100000 in
theorem slices_Equal_int_int.calls (k : Nat) (A0 : Option Addr) (c0 : Nat) (l0 : List Int) (A1 : Option Addr) (c1 : Nat) (l1 : List Int) (r : Bool) (w : World) (hr0 : Kd.C (Kd.int .i64) w A0 l0.length l0) (hc0 : l0.length ≤ c0) (hr1 : Kd.C (Kd.int .i64) w A1 l1.length l1) (hc1 : l1.length ≤ c1) (h : slices_Equal_int_int.f k l0 l1 = some r) :
  Calls Tryz.prog 120 #[.slice A0 l0.length c0, .slice A1 l1.length c1] w fun e w' => e = .returned (.bool r) ∧ Drawn0 w w' := by
 have HR0 := Aside0.mk hr0
 have HC0 := Aside0.mk hc0
 clear hr0 hc0
 have HR1 := Aside0.mk hr1
 have HC1 := Aside0.mk hc1
 clear hr1 hc1
 have H : (if (l0.length : Int) = (l1.length : Int) then (slices_Equal_int_int.l0 k l0 l1 (l0.length : Int) 0) else (some false)) = some r := h
 clear h
 by_cases c3 : (l0.length : Int) = (l1.length : Int)
 ·rw [if_pos c3] at H
  have c3b0 : ((l0.length : Int) == (l1.length : Int)) = true := beq_iff_eq.mpr c3
  have c3b1 : ((l0.length : Int) != (l1.length : Int)) = false := bne_eq_false_iff_eq.mpr c3
  have c3b2 : (l0.length == l1.length) = true := by first | simpa using c3 | (simp at c3 ⊢; omega)
  clear c3
  have H' := Aside0.mk H
  clear H
  go_enter Tryz.func120, Tryz.ntmps120
  go_wp2
  repeat (go_quiet (fail); try go_wp2)
  go_loopg [13] k (fun kq v13 w' => ∃ (x13_1 : Int), v13 = .int .i64 x13_1 ∧ Aside0 (slices_Equal_int_int.l0 kq l0 l1 (l0.length : Int) x13_1 = some r) ∧ Aside0 (kq ≤ k) ∧ Drawn0 w w')
  case atStart => exact ⟨(0), rs, H', ⟨Nat.le_refl _⟩, by repeat (first | exact Drawn0.refl _ | apply Drawn0.step)⟩
  case round =>
   clear H'
   (try clear c1); (try clear p2); (try clear c3); (try clear c3b0); (try clear c3b1); (try clear c3b2)
   obtain ⟨x13_1, rfl, HA, HK1, ⟨m1, rfl⟩⟩ := hrel
   cases gk with
   | zero => exact absurd HA.out (by simp [slices_Equal_int_int.l0])
   | succ k1 =>
    have H := HA.out
    clear HA
    simp only [slices_Equal_int_int.l0] at H
    by_cases c4 : x13_1 < (l0.length : Int)
    ·rw [if_pos c4] at H
     have c4b0 : decide (x13_1 < (l0.length : Int)) = true := decide_eq_true c4
     clear c4
     by_cases c5 : 0 ≤ x13_1
     ·rw [if_pos c5] at H
      have c5b0 : decide (0 ≤ x13_1) = true := decide_eq_true c5
      clear c5
      by_cases c6 : x13_1 < (l0.length : Int)
      ·rw [if_pos c6] at H
       have c6b0 : decide (x13_1 < (l0.length : Int)) = true := decide_eq_true c6
       clear c6
       by_cases c7 : x13_1 < (l1.length : Int)
       ·rw [if_pos c7] at H
        have c7b0 : decide (x13_1 < (l1.length : Int)) = true := decide_eq_true c7
        clear c7
        by_cases c8 : (rd l0 x13_1) = (rd l1 x13_1)
        ·rw [if_pos c8] at H
         have c8b0 : ((rd l0 x13_1) == (rd l1 x13_1)) = true := beq_iff_eq.mpr c8
         have c8b1 : ((rd l0 x13_1) != (rd l1 x13_1)) = false := bne_eq_false_iff_eq.mpr c8
         clear c8
         have H' := Aside0.mk H
         clear H
         have p298 : 0 ≤ (x13_1 : Int) := oa
         have q298 : x13_1 < (l0.length : Int) := oa
         obtain ⟨ad298, e298, hx298_0⟩ := Kd.at_int HR0.out x13_1 p298 q298
         cases e298
         replace p298 := eq_true p298
         replace q298 := eq_true q298
         have p299 : 0 ≤ (x13_1 : Int) := oa
         have q299 : x13_1 < (l1.length : Int) := oa
         obtain ⟨ad299, e299, hx299_0⟩ := Kd.at_int HR1.out x13_1 p299 q299
         cases e299
         replace p299 := eq_true p299
         replace q299 := eq_true q299
         go_wp2
         repeat (go_quiet (fail); try go_wp2)
         go_roundg k1
         case measure => have := HK1.out; omega
         case rel => exact ⟨(wrap64 (x13_1 + 1)), rs, H', ⟨by have := HK1.out; omega⟩, by repeat (first | exact Drawn0.refl _ | apply Drawn0.step)⟩
        ·rw [if_neg c8] at H
         have c8b0 : ((rd l0 x13_1) == (rd l1 x13_1)) = false := beq_eq_false_iff_ne.mpr c8
         have c8b1 : ((rd l0 x13_1) != (rd l1 x13_1)) = true := bne_iff_ne.mpr c8
         obtain rfl := Option.some.inj H
         have p298 : 0 ≤ (x13_1 : Int) := oa
         have q298 : x13_1 < (l0.length : Int) := oa
         obtain ⟨ad298, e298, hx298_0⟩ := Kd.at_int HR0.out x13_1 p298 q298
         cases e298
         replace p298 := eq_true p298
         replace q298 := eq_true q298
         have p299 : 0 ≤ (x13_1 : Int) := oa
         have q299 : x13_1 < (l1.length : Int) := oa
         obtain ⟨ad299, e299, hx299_0⟩ := Kd.at_int HR1.out x13_1 p299 q299
         cases e299
         replace p299 := eq_true p299
         replace q299 := eq_true q299
         go_wp2
         repeat (go_quiet (fail); try go_wp2)
         go_ret
         exact ⟨by first | rfl | (simp; done) | (simp [*]; done), by repeat (first | exact Drawn0.refl _ | apply Drawn0.step)⟩
       ·rw [if_neg c7] at H
        exact absurd H (by simp)
      ·rw [if_neg c6] at H
       exact absurd H (by simp)
     ·rw [if_neg c5] at H
      exact absurd H (by simp)
    ·rw [if_neg c4] at H
     have c4b0 : decide (x13_1 < (l0.length : Int)) = false := decide_eq_false c4
     clear c4
     obtain rfl := Option.some.inj H
     go_wp2
     repeat (go_quiet (fail); try go_wp2)
     go_ret
     exact ⟨by first | rfl | (simp; done) | (simp [*]; done), by repeat (first | exact Drawn0.refl _ | apply Drawn0.step)⟩
 ·rw [if_neg c3] at H
  have c3b0 : ((l0.length : Int) == (l1.length : Int)) = false := beq_eq_false_iff_ne.mpr c3
  have c3b1 : ((l0.length : Int) != (l1.length : Int)) = true := bne_iff_ne.mpr c3
  have c3b2 : (l0.length == l1.length) = false := by first | simpa using c3 | (simp at c3 ⊢; omega)
  obtain rfl := Option.some.inj H
  go_enter Tryz.func120, Tryz.ntmps120
  go_wp2
  repeat (go_quiet (fail); try go_wp2)
  go_ret
  exact ⟨by first | rfl | (simp; done) | (simp [*]; done), by repeat (first | exact Drawn0.refl _ | apply Drawn0.step)⟩
def code_sameType.f (k : Nat) (a0_0 : Int) (l0_1 : List Int) (a1_0 : Int) (l1_1 : List Int) : Option (Bool) := if a0_0 = a1_0 then ((slices_Equal_int_int.f k l0_1 l1_1).bind fun t302 => (some t302)) else (some false)
set_option maxHeartbeats 8000000 in
set_option maxRecDepth 100000 in
theorem code_sameType.calls (k : Nat) (a0_0 : Int) (A0_1 : Option Addr) (c0_1 : Nat) (l0_1 : List Int) (a1_0 : Int) (A1_1 : Option Addr) (c1_1 : Nat) (l1_1 : List Int) (r : Bool) (w : World) (hr0_1 : Kd.C (Kd.int .i64) w A0_1 l0_1.length l0_1) (hc0_1 : l0_1.length ≤ c0_1) (hr1_1 : Kd.C (Kd.int .i64) w A1_1 l1_1.length l1_1) (hc1_1 : l1_1.length ≤ c1_1) (h : code_sameType.f k a0_0 l0_1 a1_0 l1_1 = some r) :
  Calls Tryz.prog 73 #[.agg #[.int .i64 a0_0, .slice A0_1 l0_1.length c0_1], .agg #[.int .i64 a1_0, .slice A1_1 l1_1.length c1_1]] w fun e w' => e = .returned (.bool r) ∧ Below w.heap.size w w' := by
 have hu115 := Tryz.underlying115
 have HR0_1 := Aside0.mk hr0_1
 have HC0_1 := Aside0.mk hc0_1
 clear hr0_1 hc0_1
 have HR1_1 := Aside0.mk hr1_1
 have HC1_1 := Aside0.mk hc1_1
 clear hr1_1 hc1_1
 have HB := Aside0.mk (Below.refl w.heap.size w)
 have H : (if a0_0 = a1_0 then ((slices_Equal_int_int.f k l0_1 l1_1).bind fun t302 => (some t302)) else (some false)) = some r := h
 clear h
 by_cases c3 : a0_0 = a1_0
 focus
  rw [if_pos c3] at H
  have c3b0 : (a0_0 == a1_0) = true := beq_iff_eq.mpr c3
  have c3b1 : (a0_0 != a1_0) = false := bne_eq_false_iff_eq.mpr c3
  clear c3
  replace H := Option.bind_eq_some_iff.mp H
  obtain ⟨t302, A40, H⟩ := H
  (try dsimp only at H)
  have A4 := Aside0.mk A40
  clear A40
  obtain rfl := Option.some.inj H
 rotate_left 1
 focus
  rw [if_neg c3] at H
  have c3b0 : (a0_0 == a1_0) = false := beq_eq_false_iff_ne.mpr c3
  have c3b1 : (a0_0 != a1_0) = true := bne_iff_ne.mpr c3
  obtain rfl := Option.some.inj H
 rotate_left 1
 all_goals (go_enter Tryz.func73, Tryz.ntmps73)
 all_goals (go_wp2_with (first | ((with_reducible refine gate_dst (N := 2) rfl ?_); refine bx (N := 2) (cs := #[.int .i64 a0_0, .slice A0_1 l0_1.length c0_1]) (t := 115) ?_; intro gb300 hg wq1 hbox hb; have BK300 := Aside0.mk (hbox); have GW300 := (gz hg HB : Aside0 (w.heap.size ≤ gb300)); have GE300 := (gz hg HB : Aside0 (w.heap.size ≤ gb300)); replace HB := Aside0.mk (below_step (bl HB) hb); clear hb hbox hg) | ((with_reducible refine gate_dst (N := 3) rfl ?_); refine bx (N := 3) (cs := #[.int .i64 a1_0, .slice A1_1 l1_1.length c1_1]) (t := 115) ?_; intro gb301 hg wq2 hbox hb; have n0_ := Aside0.mk (blk_below (g := gb300) (o := .cells #[.int .i64 a0_0, .slice A0_1 l0_1.length c0_1] 115 (0, 0)) (bk BK300) hb); have n1_ := Aside0.mk (below_step (bl HB) hb); have n2_ := Aside0.mk (hbox); have n3_ := (gz hg HB : Aside0 (w.heap.size ≤ gb301)); have n4_ := (gz hg HB : Aside0 (w.heap.size ≤ gb301)); have n5_ := Aside0.mk ((by rw [hg]; exact Nat.ne_of_lt (blk_lt (g := gb300) (o := .cells #[.int .i64 a0_0, .slice A0_1 l0_1.length c0_1] 115 (0, 0)) (bk BK300)) : gb300 ≠ gb301)); have n6_ := Aside0.mk ((by rw [hg]; exact Nat.ne_of_gt (blk_lt (g := gb300) (o := .cells #[.int .i64 a0_0, .slice A0_1 l0_1.length c0_1] 115 (0, 0)) (bk BK300)) : gb301 ≠ gb300)); clear BK300; clear HB; have BK300 := n0_; have HB := n1_; have BK301 := n2_; have GW301 := n3_; have GE301 := n4_; have NB300_301 := n5_; have NB301_300 := n6_; clear n0_ n1_ n2_ n3_ n4_ n5_ n6_; clear hb hbox hg; have hnb7 := NB300_301.out; have hnc7 := NB301_300.out; have hczq1_0 := blk_cell BK300.out 0; have hczq1_1 := blk_cell BK300.out 1; have hfzq1_0 := blk_frozen BK300.out 0; have hfzq1_1 := blk_frozen BK300.out 1; have hczq2_0 := blk_cell BK301.out 0; have hczq2_1 := blk_cell BK301.out 1; have hfzq2_0 := blk_frozen BK301.out 0; have hfzq2_1 := blk_frozen BK301.out 1) | (go_at_call 120; (with_reducible refine (slices_Equal_int_int.calls k _ _ l0_1 _ _ l1_1 t302 _ ?side1 ?side2 ?side3 ?side4 A4.out).mono ?_); (case side1 => exact cb HR0_1 HB); (case side2 => exact HC0_1.out); (case side3 => exact cb HR1_1 HB); (case side4 => exact HC1_1.out); rintro e w' ⟨rfl, ⟨nd, rfl⟩⟩) | ((with_reducible refine gate_dst (N := 3) rfl ?_); refine bx (N := 3) (cs := #[.int .i64 a1_0, .slice A1_1 l1_1.length c1_1]) (t := 115) ?_; intro gb301 hg wq2 hbox hb; have n0_ := Aside0.mk (blk_below (g := gb300) (o := .cells #[.int .i64 a0_0, .slice A0_1 l0_1.length c0_1] 115 (0, 0)) (bk BK300) hb); have n1_ := Aside0.mk (below_step (bl HB) hb); have n2_ := Aside0.mk (hbox); have n3_ := (gz hg HB : Aside0 (w.heap.size ≤ gb301)); have n4_ := (gz hg HB : Aside0 (w.heap.size ≤ gb301)); have n5_ := Aside0.mk ((by rw [hg]; exact Nat.ne_of_lt (blk_lt (g := gb300) (o := .cells #[.int .i64 a0_0, .slice A0_1 l0_1.length c0_1] 115 (0, 0)) (bk BK300)) : gb300 ≠ gb301)); have n6_ := Aside0.mk ((by rw [hg]; exact Nat.ne_of_gt (blk_lt (g := gb300) (o := .cells #[.int .i64 a0_0, .slice A0_1 l0_1.length c0_1] 115 (0, 0)) (bk BK300)) : gb301 ≠ gb300)); clear BK300; clear HB; have BK300 := n0_; have HB := n1_; have BK301 := n2_; have GW301 := n3_; have GE301 := n4_; have NB300_301 := n5_; have NB301_300 := n6_; clear n0_ n1_ n2_ n3_ n4_ n5_ n6_; clear hb hbox hg; have hnb12 := NB300_301.out; have hnc12 := NB301_300.out; have hczq1_0 := blk_cell BK300.out 0; have hczq1_1 := blk_cell BK300.out 1; have hfzq1_0 := blk_frozen BK300.out 0; have hfzq1_1 := blk_frozen BK300.out 1; have hczq2_0 := blk_cell BK301.out 0; have hczq2_1 := blk_cell BK301.out 1; have hfzq2_0 := blk_frozen BK301.out 0; have hfzq2_1 := blk_frozen BK301.out 1)))
 ·go_ret
  exact ⟨re, bl HB⟩
 ·go_ret
  exact ⟨re, bl HB⟩
def slices_Equal_uint32_uint32.l0 : Nat → List Int → List Int → Int → Int → Option (Bool)
 | 0, _, _, _, _ => none
 | k + 1, x0, x1, x12, x13 => if x13 < x12 then (if 0 ≤ x13 then (if x13 < (x0.length : Int) then (if x13 < (x1.length : Int) then (if (rd x0 x13) = (rd x1 x13) then (slices_Equal_uint32_uint32.l0 k x0 x1 x12 (wrap64 (x13 + 1))) else (some false)) else (none)) else (none)) else (none)) else (some true)
def slices_Equal_uint32_uint32.f (k : Nat) (l0 : List Int) (l1 : List Int) : Option (Bool) := if (l0.length : Int) = (l1.length : Int) then (slices_Equal_uint32_uint32.l0 k l0 l1 (l0.length : Int) 0) else (some false)
set_option maxHeartbeats 8000000 in
set_option maxRecDepth 100000 in
theorem slices_Equal_uint32_uint32.calls (k : Nat) (A0 : Option Addr) (c0 : Nat) (l0 : List Int) (A1 : Option Addr) (c1 : Nat) (l1 : List Int) (r : Bool) (w : World) (hr0 : Kd.C (Kd.int .u32) w A0 l0.length l0) (hc0 : l0.length ≤ c0) (hr1 : Kd.C (Kd.int .u32) w A1 l1.length l1) (hc1 : l1.length ≤ c1) (h : slices_Equal_uint32_uint32.f k l0 l1 = some r) :
  Calls Tryz.prog 151 #[.slice A0 l0.length c0, .slice A1 l1.length c1] w fun e w' => e = .returned (.bool r) ∧ Drawn0 w w' := by
 have HR0 := Aside0.mk hr0
 have HC0 := Aside0.mk hc0
 clear hr0 hc0
 have HR1 := Aside0.mk hr1
 have HC1 := Aside0.mk hc1
 clear hr1 hc1
 have H : (if (l0.length : Int) = (l1.length : Int) then (slices_Equal_uint32_uint32.l0 k l0 l1 (l0.length : Int) 0) else (some false)) = some r := h
 clear h
 by_cases c3 : (l0.length : Int) = (l1.length : Int)
 ·rw [if_pos c3] at H
  have c3b0 : ((l0.length : Int) == (l1.length : Int)) = true := beq_iff_eq.mpr c3
  have c3b1 : ((l0.length : Int) != (l1.length : Int)) = false := bne_eq_false_iff_eq.mpr c3
  have c3b2 : (l0.length == l1.length) = true := by first | simpa using c3 | (simp at c3 ⊢; omega)
  clear c3
  have H' := Aside0.mk H
  clear H
  go_enter Tryz.func151, Tryz.ntmps151
  go_wp2
  repeat (go_quiet (fail); try go_wp2)
  go_loopg [13] k (fun kq v13 w' => ∃ (x13_1 : Int), v13 = .int .i64 x13_1 ∧ Aside0 (slices_Equal_uint32_uint32.l0 kq l0 l1 (l0.length : Int) x13_1 = some r) ∧ Aside0 (kq ≤ k) ∧ Drawn0 w w')
  case atStart => exact ⟨(0), rs, H', ⟨Nat.le_refl _⟩, by repeat (first | exact Drawn0.refl _ | apply Drawn0.step)⟩
  case round =>
   clear H'
   (try clear c1); (try clear p2); (try clear c3); (try clear c3b0); (try clear c3b1); (try clear c3b2)
   obtain ⟨x13_1, rfl, HA, HK1, ⟨m1, rfl⟩⟩ := hrel
   cases gk with
   | zero => exact absurd HA.out (by simp [slices_Equal_uint32_uint32.l0])
   | succ k1 =>
    have H := HA.out
    clear HA
    simp only [slices_Equal_uint32_uint32.l0] at H
    by_cases c4 : x13_1 < (l0.length : Int)
    ·rw [if_pos c4] at H
     have c4b0 : decide (x13_1 < (l0.length : Int)) = true := decide_eq_true c4
     clear c4
     by_cases c5 : 0 ≤ x13_1
     ·rw [if_pos c5] at H
      have c5b0 : decide (0 ≤ x13_1) = true := decide_eq_true c5
      clear c5
      by_cases c6 : x13_1 < (l0.length : Int)
      ·rw [if_pos c6] at H
       have c6b0 : decide (x13_1 < (l0.length : Int)) = true := decide_eq_true c6
       clear c6
       by_cases c7 : x13_1 < (l1.length : Int)
       ·rw [if_pos c7] at H
        have c7b0 : decide (x13_1 < (l1.length : Int)) = true := decide_eq_true c7
        clear c7
        by_cases c8 : (rd l0 x13_1) = (rd l1 x13_1)
        ·rw [if_pos c8] at H
         have c8b0 : ((rd l0 x13_1) == (rd l1 x13_1)) = true := beq_iff_eq.mpr c8
         have c8b1 : ((rd l0 x13_1) != (rd l1 x13_1)) = false := bne_eq_false_iff_eq.mpr c8
         clear c8
         have H' := Aside0.mk H
         clear H
         have p303 : 0 ≤ (x13_1 : Int) := oa
         have q303 : x13_1 < (l0.length : Int) := oa
         obtain ⟨ad303, e303, hx303_0⟩ := Kd.at_int HR0.out x13_1 p303 q303
         cases e303
         replace p303 := eq_true p303
         replace q303 := eq_true q303
         have p304 : 0 ≤ (x13_1 : Int) := oa
         have q304 : x13_1 < (l1.length : Int) := oa
         obtain ⟨ad304, e304, hx304_0⟩ := Kd.at_int HR1.out x13_1 p304 q304
         cases e304
         replace p304 := eq_true p304
         replace q304 := eq_true q304
         go_wp2
         repeat (go_quiet (fail); try go_wp2)
         go_roundg k1
         case measure => have := HK1.out; omega
         case rel => exact ⟨(wrap64 (x13_1 + 1)), rs, H', ⟨by have := HK1.out; omega⟩, by repeat (first | exact Drawn0.refl _ | apply Drawn0.step)⟩
        ·rw [if_neg c8] at H
         have c8b0 : ((rd l0 x13_1) == (rd l1 x13_1)) = false := beq_eq_false_iff_ne.mpr c8
         have c8b1 : ((rd l0 x13_1) != (rd l1 x13_1)) = true := bne_iff_ne.mpr c8
         obtain rfl := Option.some.inj H
         have p303 : 0 ≤ (x13_1 : Int) := oa
         have q303 : x13_1 < (l0.length : Int) := oa
         obtain ⟨ad303, e303, hx303_0⟩ := Kd.at_int HR0.out x13_1 p303 q303
         cases e303
         replace p303 := eq_true p303
         replace q303 := eq_true q303
         have p304 : 0 ≤ (x13_1 : Int) := oa
         have q304 : x13_1 < (l1.length : Int) := oa
         obtain ⟨ad304, e304, hx304_0⟩ := Kd.at_int HR1.out x13_1 p304 q304
         cases e304
         replace p304 := eq_true p304
         replace q304 := eq_true q304
         go_wp2
         repeat (go_quiet (fail); try go_wp2)
         go_ret
         exact ⟨by first | rfl | (simp; done) | (simp [*]; done), by repeat (first | exact Drawn0.refl _ | apply Drawn0.step)⟩
       ·rw [if_neg c7] at H
        exact absurd H (by simp)
      ·rw [if_neg c6] at H
       exact absurd H (by simp)
     ·rw [if_neg c5] at H
      exact absurd H (by simp)
    ·rw [if_neg c4] at H
     have c4b0 : decide (x13_1 < (l0.length : Int)) = false := decide_eq_false c4
     clear c4
     obtain rfl := Option.some.inj H
     go_wp2
     repeat (go_quiet (fail); try go_wp2)
     go_ret
     exact ⟨by first | rfl | (simp; done) | (simp [*]; done), by repeat (first | exact Drawn0.refl _ | apply Drawn0.step)⟩
 ·rw [if_neg c3] at H
  have c3b0 : ((l0.length : Int) == (l1.length : Int)) = false := beq_eq_false_iff_ne.mpr c3
  have c3b1 : ((l0.length : Int) != (l1.length : Int)) = true := bne_iff_ne.mpr c3
  have c3b2 : (l0.length == l1.length) = false := by first | simpa using c3 | (simp at c3 ⊢; omega)
  obtain rfl := Option.some.inj H
  go_enter Tryz.func151, Tryz.ntmps151
  go_wp2
  repeat (go_quiet (fail); try go_wp2)
  go_ret
  exact ⟨by first | rfl | (simp; done) | (simp [*]; done), by repeat (first | exact Drawn0.refl _ | apply Drawn0.step)⟩
def code_sameRat.f (k : Nat) (a0_0 : Int) (a0_1 : Bool) (l0_2 : List Int) (l0_3 : List Int) (a1_0 : Int) (a1_1 : Bool) (l1_2 : List Int) (l1_3 : List Int) : Option (Bool) := if a0_0 = a1_0 then (if (a0_1 == a1_1) = true then ((slices_Equal_uint32_uint32.f k l0_2 l1_2).bind fun t307 => (if t307 = true then ((slices_Equal_uint32_uint32.f k l0_3 l1_3).bind fun t308 => (some t308)) else (some false))) else (some false)) else (some false)
set_option maxHeartbeats 8000000 in
set_option maxRecDepth 100000 in
theorem code_sameRat.calls (k : Nat) (a0_0 : Int) (a0_1 : Bool) (A0_2 : Option Addr) (c0_2 : Nat) (l0_2 : List Int) (A0_3 : Option Addr) (c0_3 : Nat) (l0_3 : List Int) (a1_0 : Int) (a1_1 : Bool) (A1_2 : Option Addr) (c1_2 : Nat) (l1_2 : List Int) (A1_3 : Option Addr) (c1_3 : Nat) (l1_3 : List Int) (r : Bool) (w : World) (hr0_2 : Kd.C (Kd.int .u32) w A0_2 l0_2.length l0_2) (hc0_2 : l0_2.length ≤ c0_2) (hr0_3 : Kd.C (Kd.int .u32) w A0_3 l0_3.length l0_3) (hc0_3 : l0_3.length ≤ c0_3) (hr1_2 : Kd.C (Kd.int .u32) w A1_2 l1_2.length l1_2) (hc1_2 : l1_2.length ≤ c1_2) (hr1_3 : Kd.C (Kd.int .u32) w A1_3 l1_3.length l1_3) (hc1_3 : l1_3.length ≤ c1_3) (h : code_sameRat.f k a0_0 a0_1 l0_2 l0_3 a1_0 a1_1 l1_2 l1_3 = some r) :
  Calls Tryz.prog 121 #[.agg #[.int .i64 a0_0, .bool a0_1, .slice A0_2 l0_2.length c0_2, .slice A0_3 l0_3.length c0_3], .agg #[.int .i64 a1_0, .bool a1_1, .slice A1_2 l1_2.length c1_2, .slice A1_3 l1_3.length c1_3]] w fun e w' => e = .returned (.bool r) ∧ Below w.heap.size w w' := by
 have hu61 := Tryz.underlying61
 have HR0_2 := Aside0.mk hr0_2
 have HC0_2 := Aside0.mk hc0_2
 clear hr0_2 hc0_2
 have HR0_3 := Aside0.mk hr0_3
 have HC0_3 := Aside0.mk hc0_3
 clear hr0_3 hc0_3
 have HR1_2 := Aside0.mk hr1_2
 have HC1_2 := Aside0.mk hc1_2
 clear hr1_2 hc1_2
 have HR1_3 := Aside0.mk hr1_3
 have HC1_3 := Aside0.mk hc1_3
 clear hr1_3 hc1_3
 have HB := Aside0.mk (Below.refl w.heap.size w)
 have H : (if a0_0 = a1_0 then (if (a0_1 == a1_1) = true then ((slices_Equal_uint32_uint32.f k l0_2 l1_2).bind fun t307 => (if t307 = true then ((slices_Equal_uint32_uint32.f k l0_3 l1_3).bind fun t308 => (some t308)) else (some false))) else (some false)) else (some false)) = some r := h
 clear h
 by_cases c3 : a0_0 = a1_0
 focus
  rw [if_pos c3] at H
  have c3b0 : (a0_0 == a1_0) = true := beq_iff_eq.mpr c3
  have c3b1 : (a0_0 != a1_0) = false := bne_eq_false_iff_eq.mpr c3
  clear c3
  by_cases c4 : (a0_1 == a1_1) = true
  focus
   rw [if_pos c4] at H
   have c4b0 : (a0_1 == a1_1) = true := c4
   (try (have c4b1 : decide (a0_1 = a1_1) = true := by simpa using c4))
   (try (have c4b2 : (a0_1 == a1_1) = true := by simpa using c4))
   clear c4
   replace H := Option.bind_eq_some_iff.mp H
   obtain ⟨t307, A50, H⟩ := H
   (try dsimp only at H)
   have A5 := Aside0.mk A50
   clear A50
   by_cases c6 : t307 = true
   focus
    subst c6
    have H1 : ((slices_Equal_uint32_uint32.f k l0_3 l1_3).bind fun t308 => (some t308)) = some r := by rw [if_pos rfl] at H; exact H
    clear H
    have H := H1
    clear H1
    replace H := Option.bind_eq_some_iff.mp H
    obtain ⟨t308, A70, H⟩ := H
    (try dsimp only at H)
    have A7 := Aside0.mk A70
    clear A70
    obtain rfl := Option.some.inj H
   rotate_left 1
   focus
    replace c6 := Bool.eq_false_iff.mpr c6
    subst c6
    have H1 : (some false) = some r := by rw [if_neg (show ¬ (false = true) by decide)] at H; exact H
    clear H
    have H := H1
    clear H1
    obtain rfl := Option.some.inj H
   rotate_left 1
  rotate_left 2
  focus
   rw [if_neg c4] at H
   have c4b0 : (a0_1 == a1_1) = false := by simpa using c4
   (try (have c4b1 : decide (a0_1 = a1_1) = false := by simpa using c4))
   (try (have c4b2 : (a0_1 == a1_1) = false := by simpa using c4))
   (try (have c4b3 : ¬ (a0_1 = a1_1) := by simpa using c4))
   clear c4
   obtain rfl := Option.some.inj H
  rotate_left 1
 rotate_left 3
 focus
  rw [if_neg c3] at H
  have c3b0 : (a0_0 == a1_0) = false := beq_eq_false_iff_ne.mpr c3
  have c3b1 : (a0_0 != a1_0) = true := bne_iff_ne.mpr c3
  obtain rfl := Option.some.inj H
 rotate_left 1
 all_goals (go_enter Tryz.func121, Tryz.ntmps121)
 all_goals (go_wp2_with (first | ((with_reducible refine gate_dst (N := 2) rfl ?_); refine bx (N := 2) (cs := #[.int .i64 a0_0, .bool a0_1, .slice A0_2 l0_2.length c0_2, .slice A0_3 l0_3.length c0_3]) (t := 61) ?_; intro gb305 hg wq1 hbox hb; have BK305 := Aside0.mk (hbox); have GW305 := (gz hg HB : Aside0 (w.heap.size ≤ gb305)); have GE305 := (gz hg HB : Aside0 (w.heap.size ≤ gb305)); replace HB := Aside0.mk (below_step (bl HB) hb); clear hb hbox hg) | ((with_reducible refine gate_dst (N := 3) rfl ?_); refine bx (N := 3) (cs := #[.int .i64 a1_0, .bool a1_1, .slice A1_2 l1_2.length c1_2, .slice A1_3 l1_3.length c1_3]) (t := 61) ?_; intro gb306 hg wq2 hbox hb; have n0_ := Aside0.mk (blk_below (g := gb305) (o := .cells #[.int .i64 a0_0, .bool a0_1, .slice A0_2 l0_2.length c0_2, .slice A0_3 l0_3.length c0_3] 61 (0, 0)) (bk BK305) hb); have n1_ := Aside0.mk (below_step (bl HB) hb); have n2_ := Aside0.mk (hbox); have n3_ := (gz hg HB : Aside0 (w.heap.size ≤ gb306)); have n4_ := (gz hg HB : Aside0 (w.heap.size ≤ gb306)); have n5_ := Aside0.mk ((by rw [hg]; exact Nat.ne_of_lt (blk_lt (g := gb305) (o := .cells #[.int .i64 a0_0, .bool a0_1, .slice A0_2 l0_2.length c0_2, .slice A0_3 l0_3.length c0_3] 61 (0, 0)) (bk BK305)) : gb305 ≠ gb306)); have n6_ := Aside0.mk ((by rw [hg]; exact Nat.ne_of_gt (blk_lt (g := gb305) (o := .cells #[.int .i64 a0_0, .bool a0_1, .slice A0_2 l0_2.length c0_2, .slice A0_3 l0_3.length c0_3] 61 (0, 0)) (bk BK305)) : gb306 ≠ gb305)); clear BK305; clear HB; have BK305 := n0_; have HB := n1_; have BK306 := n2_; have GW306 := n3_; have GE306 := n4_; have NB305_306 := n5_; have NB306_305 := n6_; clear n0_ n1_ n2_ n3_ n4_ n5_ n6_; clear hb hbox hg; have hnb10 := NB305_306.out; have hnc10 := NB306_305.out; have hczq1_0 := blk_cell BK305.out 0; have hczq1_1 := blk_cell BK305.out 1; have hczq1_2 := blk_cell BK305.out 2; have hczq1_3 := blk_cell BK305.out 3; have hfzq1_0 := blk_frozen BK305.out 0; have hfzq1_1 := blk_frozen BK305.out 1; have hfzq1_2 := blk_frozen BK305.out 2; have hfzq1_3 := blk_frozen BK305.out 3; have hczq2_0 := blk_cell BK306.out 0; have hczq2_1 := blk_cell BK306.out 1; have hczq2_2 := blk_cell BK306.out 2; have hczq2_3 := blk_cell BK306.out 3; have hfzq2_0 := blk_frozen BK306.out 0; have hfzq2_1 := blk_frozen BK306.out 1; have hfzq2_2 := blk_frozen BK306.out 2; have hfzq2_3 := blk_frozen BK306.out 3) | (go_at_call 151; (with_reducible refine (slices_Equal_uint32_uint32.calls k _ _ l0_2 _ _ l1_2 true _ ?side1 ?side2 ?side3 ?side4 A5.out).mono ?_); (case side1 => exact cb HR0_2 HB); (case side2 => exact HC0_2.out); (case side3 => exact cb HR1_2 HB); (case side4 => exact HC1_2.out); rintro e w' ⟨rfl, ⟨nd, rfl⟩⟩) | (go_at_call 151; (with_reducible refine (slices_Equal_uint32_uint32.calls k _ _ l0_3 _ _ l1_3 t308 _ ?side1 ?side2 ?side3 ?side4 A7.out).mono ?_); (case side1 => repeat (first | exact (Kd.C_below HR0_3.out (bl HB)) | (with_reducible refine Kd.C_alloc ?_ _) | (with_reducible refine Kd.C_drewN ?_ _) | (with_reducible refine Kd.C_drew ?_))); (case side2 => exact HC0_3.out); (case side3 => repeat (first | exact (Kd.C_below HR1_3.out (bl HB)) | (with_reducible refine Kd.C_alloc ?_ _) | (with_reducible refine Kd.C_drewN ?_ _) | (with_reducible refine Kd.C_drew ?_))); (case side4 => exact HC1_3.out); rintro e w' ⟨rfl, ⟨nd, rfl⟩⟩) | ((with_reducible refine gate_dst (N := 3) rfl ?_); refine bx (N := 3) (cs := #[.int .i64 a1_0, .bool a1_1, .slice A1_2 l1_2.length c1_2, .slice A1_3 l1_3.length c1_3]) (t := 61) ?_; intro gb306 hg wq2 hbox hb; have n0_ := Aside0.mk (blk_below (g := gb305) (o := .cells #[.int .i64 a0_0, .bool a0_1, .slice A0_2 l0_2.length c0_2, .slice A0_3 l0_3.length c0_3] 61 (0, 0)) (bk BK305) hb); have n1_ := Aside0.mk (below_step (bl HB) hb); have n2_ := Aside0.mk (hbox); have n3_ := (gz hg HB : Aside0 (w.heap.size ≤ gb306)); have n4_ := (gz hg HB : Aside0 (w.heap.size ≤ gb306)); have n5_ := Aside0.mk ((by rw [hg]; exact Nat.ne_of_lt (blk_lt (g := gb305) (o := .cells #[.int .i64 a0_0, .bool a0_1, .slice A0_2 l0_2.length c0_2, .slice A0_3 l0_3.length c0_3] 61 (0, 0)) (bk BK305)) : gb305 ≠ gb306)); have n6_ := Aside0.mk ((by rw [hg]; exact Nat.ne_of_gt (blk_lt (g := gb305) (o := .cells #[.int .i64 a0_0, .bool a0_1, .slice A0_2 l0_2.length c0_2, .slice A0_3 l0_3.length c0_3] 61 (0, 0)) (bk BK305)) : gb306 ≠ gb305)); clear BK305; clear HB; have BK305 := n0_; have HB := n1_; have BK306 := n2_; have GW306 := n3_; have GE306 := n4_; have NB305_306 := n5_; have NB306_305 := n6_; clear n0_ n1_ n2_ n3_ n4_ n5_ n6_; clear hb hbox hg; have hnb15 := NB305_306.out; have hnc15 := NB306_305.out; have hczq1_0 := blk_cell BK305.out 0; have hczq1_1 := blk_cell BK305.out 1; have hczq1_2 := blk_cell BK305.out 2; have hczq1_3 := blk_cell BK305.out 3; have hfzq1_0 := blk_frozen BK305.out 0; have hfzq1_1 := blk_frozen BK305.out 1; have hfzq1_2 := blk_frozen BK305.out 2; have hfzq1_3 := blk_frozen BK305.out 3; have hczq2_0 := blk_cell BK306.out 0; have hczq2_1 := blk_cell BK306.out 1; have hczq2_2 := blk_cell BK306.out 2; have hczq2_3 := blk_cell BK306.out 3; have hfzq2_0 := blk_frozen BK306.out 0; have hfzq2_1 := blk_frozen BK306.out 1; have hfzq2_2 := blk_frozen BK306.out 2; have hfzq2_3 := blk_frozen BK306.out 3) | (go_at_call 151; (with_reducible refine (slices_Equal_uint32_uint32.calls k _ _ l0_2 _ _ l1_2 false _ ?side1 ?side2 ?side3 ?side4 A5.out).mono ?_); (case side1 => exact cb HR0_2 HB); (case side2 => exact HC0_2.out); (case side3 => exact cb HR1_2 HB); (case side4 => exact HC1_2.out); rintro e w' ⟨rfl, ⟨nd, rfl⟩⟩) | ((with_reducible refine gate_dst (N := 3) rfl ?_); refine bx (N := 3) (cs := #[.int .i64 a1_0, .bool a1_1, .slice A1_2 l1_2.length c1_2, .slice A1_3 l1_3.length c1_3]) (t := 61) ?_; intro gb306 hg wq2 hbox hb; have n0_ := Aside0.mk (blk_below (g := gb305) (o := .cells #[.int .i64 a0_0, .bool a0_1, .slice A0_2 l0_2.length c0_2, .slice A0_3 l0_3.length c0_3] 61 (0, 0)) (bk BK305) hb); have n1_ := Aside0.mk (below_step (bl HB) hb); have n2_ := Aside0.mk (hbox); have n3_ := (gz hg HB : Aside0 (w.heap.size ≤ gb306)); have n4_ := (gz hg HB : Aside0 (w.heap.size ≤ gb306)); have n5_ := Aside0.mk ((by rw [hg]; exact Nat.ne_of_lt (blk_lt (g := gb305) (o := .cells #[.int .i64 a0_0, .bool a0_1, .slice A0_2 l0_2.length c0_2, .slice A0_3 l0_3.length c0_3] 61 (0, 0)) (bk BK305)) : gb305 ≠ gb306)); have n6_ := Aside0.mk ((by rw [hg]; exact Nat.ne_of_gt (blk_lt (g := gb305) (o := .cells #[.int .i64 a0_0, .bool a0_1, .slice A0_2 l0_2.length c0_2, .slice A0_3 l0_3.length c0_3] 61 (0, 0)) (bk BK305)) : gb306 ≠ gb305)); clear BK305; clear HB; have BK305 := n0_; have HB := n1_; have BK306 := n2_; have GW306 := n3_; have GE306 := n4_; have NB305_306 := n5_; have NB306_305 := n6_; clear n0_ n1_ n2_ n3_ n4_ n5_ n6_; clear hb hbox hg; have hnb20 := NB305_306.out; have hnc20 := NB306_305.out; have hczq1_0 := blk_cell BK305.out 0; have hczq1_1 := blk_cell BK305.out 1; have hczq1_2 := blk_cell BK305.out 2; have hczq1_3 := blk_cell BK305.out 3; have hfzq1_0 := blk_frozen BK305.out 0; have hfzq1_1 := blk_frozen BK305.out 1; have hfzq1_2 := blk_frozen BK305.out 2; have hfzq1_3 := blk_frozen BK305.out 3; have hczq2_0 := blk_cell BK306.out 0; have hczq2_1 := blk_cell BK306.out 1; have hczq2_2 := blk_cell BK306.out 2; have hczq2_3 := blk_cell BK306.out 3; have hfzq2_0 := blk_frozen BK306.out 0; have hfzq2_1 := blk_frozen BK306.out 1; have hfzq2_2 := blk_frozen BK306.out 2; have hfzq2_3 := blk_frozen BK306.out 3) | ((with_reducible refine gate_dst (N := 3) rfl ?_); refine bx (N := 3) (cs := #[.int .i64 a1_0, .bool a1_1, .slice A1_2 l1_2.length c1_2, .slice A1_3 l1_3.length c1_3]) (t := 61) ?_; intro gb306 hg wq2 hbox hb; have n0_ := Aside0.mk (blk_below (g := gb305) (o := .cells #[.int .i64 a0_0, .bool a0_1, .slice A0_2 l0_2.length c0_2, .slice A0_3 l0_3.length c0_3] 61 (0, 0)) (bk BK305) hb); have n1_ := Aside0.mk (below_step (bl HB) hb); have n2_ := Aside0.mk (hbox); have n3_ := (gz hg HB : Aside0 (w.heap.size ≤ gb306)); have n4_ := (gz hg HB : Aside0 (w.heap.size ≤ gb306)); have n5_ := Aside0.mk ((by rw [hg]; exact Nat.ne_of_lt (blk_lt (g := gb305) (o := .cells #[.int .i64 a0_0, .bool a0_1, .slice A0_2 l0_2.length c0_2, .slice A0_3 l0_3.length c0_3] 61 (0, 0)) (bk BK305)) : gb305 ≠ gb306)); have n6_ := Aside0.mk ((by rw [hg]; exact Nat.ne_of_gt (blk_lt (g := gb305) (o := .cells #[.int .i64 a0_0, .bool a0_1, .slice A0_2 l0_2.length c0_2, .slice A0_3 l0_3.length c0_3] 61 (0, 0)) (bk BK305)) : gb306 ≠ gb305)); clear BK305; clear HB; have BK305 := n0_; have HB := n1_; have BK306 := n2_; have GW306 := n3_; have GE306 := n4_; have NB305_306 := n5_; have NB306_305 := n6_; clear n0_ n1_ n2_ n3_ n4_ n5_ n6_; clear hb hbox hg; have hnb25 := NB305_306.out; have hnc25 := NB306_305.out; have hczq1_0 := blk_cell BK305.out 0; have hczq1_1 := blk_cell BK305.out 1; have hczq1_2 := blk_cell BK305.out 2; have hczq1_3 := blk_cell BK305.out 3; have hfzq1_0 := blk_frozen BK305.out 0; have hfzq1_1 := blk_frozen BK305.out 1; have hfzq1_2 := blk_frozen BK305.out 2; have hfzq1_3 := blk_frozen BK305.out 3; have hczq2_0 := blk_cell BK306.out 0; have hczq2_1 := blk_cell BK306.out 1; have hczq2_2 := blk_cell BK306.out 2; have hczq2_3 := blk_cell BK306.out 3; have hfzq2_0 := blk_frozen BK306.out 0; have hfzq2_1 := blk_frozen BK306.out 1; have hfzq2_2 := blk_frozen BK306.out 2; have hfzq2_3 := blk_frozen BK306.out 3)))
 ·go_ret
  exact ⟨re, bl HB⟩
 ·go_ret
  exact ⟨re, bl HB⟩
 ·go_ret
  exact ⟨re, bl HB⟩
 ·go_ret
  exact ⟨re, bl HB⟩
def code_sameIns.f (k : Nat) (a0_0 : Int) (a0_1 : Int) (a0_2 : Int) (a0_3 : Int) (a0_4 : Int) (a0_5 : Bool) (l0_6 : List Int) (l0_7 : List Int) (a1_0 : Int) (a1_1 : Int) (a1_2 : Int) (a1_3 : Int) (a1_4 : Int) (a1_5 : Bool) (l1_6 : List Int) (l1_7 : List Int) : Option (Bool) := if a0_0 = a1_0 then (if a0_1 = a1_1 then (if a0_2 = a1_2 then (if a0_3 = a1_3 then ((code_sameRat.f k a0_4 a0_5 l0_6 l0_7 a1_4 a1_5 l1_6 l1_7).bind fun t311 => (some t311)) else (some false)) else (some false)) else (some false)) else (some false)
set_option maxHeartbeats 8000000 in
set_option maxRecDepth 100000 in
theorem code_sameIns.calls (k : Nat) (a0_0 : Int) (a0_1 : Int) (a0_2 : Int) (a0_3 : Int) (a0_4 : Int) (a0_5 : Bool) (A0_6 : Option Addr) (c0_6 : Nat) (l0_6 : List Int) (A0_7 : Option Addr) (c0_7 : Nat) (l0_7 : List Int) (a1_0 : Int) (a1_1 : Int) (a1_2 : Int) (a1_3 : Int) (a1_4 : Int) (a1_5 : Bool) (A1_6 : Option Addr) (c1_6 : Nat) (l1_6 : List Int) (A1_7 : Option Addr) (c1_7 : Nat) (l1_7 : List Int) (r : Bool) (w : World) (hr0_6 : Kd.C (Kd.int .u32) w A0_6 l0_6.length l0_6) (hc0_6 : l0_6.length ≤ c0_6) (hr0_7 : Kd.C (Kd.int .u32) w A0_7 l0_7.length l0_7) (hc0_7 : l0_7.length ≤ c0_7) (hr1_6 : Kd.C (Kd.int .u32) w A1_6 l1_6.length l1_6) (hc1_6 : l1_6.length ≤ c1_6) (hr1_7 : Kd.C (Kd.int .u32) w A1_7 l1_7.length l1_7) (hc1_7 : l1_7.length ≤ c1_7) (h : code_sameIns.f k a0_0 a0_1 a0_2 a0_3 a0_4 a0_5 l0_6 l0_7 a1_0 a1_1 a1_2 a1_3 a1_4 a1_5 l1_6 l1_7 = some r) :
  Calls Tryz.prog 75 #[.agg #[.int .i64 a0_0, .int .i64 a0_1, .int .i64 a0_2, .int .i64 a0_3, .int .i64 a0_4, .bool a0_5, .slice A0_6 l0_6.length c0_6, .slice A0_7 l0_7.length c0_7], .agg #[.int .i64 a1_0, .int .i64 a1_1, .int .i64 a1_2, .int .i64 a1_3, .int .i64 a1_4, .bool a1_5, .slice A1_6 l1_6.length c1_6, .slice A1_7 l1_7.length c1_7]] w fun e w' => e = .returned (.bool r) ∧ Below w.heap.size w w' := by
 have hu63 := Tryz.underlying63
 have hu61 := Tryz.underlying61
 have HR0_6 := Aside0.mk hr0_6
 have HC0_6 := Aside0.mk hc0_6
 clear hr0_6 hc0_6
 have HR0_7 := Aside0.mk hr0_7
 have HC0_7 := Aside0.mk hc0_7
 clear hr0_7 hc0_7
 have HR1_6 := Aside0.mk hr1_6
 have HC1_6 := Aside0.mk hc1_6
 clear hr1_6 hc1_6
 have HR1_7 := Aside0.mk hr1_7
 have HC1_7 := Aside0.mk hc1_7
 clear hr1_7 hc1_7
 have HB := Aside0.mk (Below.refl w.heap.size w)
 have H : (if a0_0 = a1_0 then (if a0_1 = a1_1 then (if a0_2 = a1_2 then (if a0_3 = a1_3 then ((code_sameRat.f k a0_4 a0_5 l0_6 l0_7 a1_4 a1_5 l1_6 l1_7).bind fun t311 => (some t311)) else (some false)) else (some false)) else (some false)) else (some false)) = some r := h
 clear h
 by_cases c3 : a0_0 = a1_0
 focus
  rw [if_pos c3] at H
  have c3b0 : (a0_0 == a1_0) = true := beq_iff_eq.mpr c3
  have c3b1 : (a0_0 != a1_0) = false := bne_eq_false_iff_eq.mpr c3
  clear c3
  by_cases c4 : a0_1 = a1_1
  focus
   rw [if_pos c4] at H
   have c4b0 : (a0_1 == a1_1) = true := beq_iff_eq.mpr c4
   have c4b1 : (a0_1 != a1_1) = false := bne_eq_false_iff_eq.mpr c4
   clear c4
   by_cases c5 : a0_2 = a1_2
   focus
    rw [if_pos c5] at H
    have c5b0 : (a0_2 == a1_2) = true := beq_iff_eq.mpr c5
    have c5b1 : (a0_2 != a1_2) = false := bne_eq_false_iff_eq.mpr c5
    clear c5
    by_cases c6 : a0_3 = a1_3
    focus
     rw [if_pos c6] at H
     have c6b0 : (a0_3 == a1_3) = true := beq_iff_eq.mpr c6
     have c6b1 : (a0_3 != a1_3) = false := bne_eq_false_iff_eq.mpr c6
     clear c6
     replace H := Option.bind_eq_some_iff.mp H
     obtain ⟨t311, A70, H⟩ := H
     (try dsimp only at H)
     have A7 := Aside0.mk A70
     clear A70
     obtain rfl := Option.some.inj H
    rotate_left 1
    focus
     rw [if_neg c6] at H
     have c6b0 : (a0_3 == a1_3) = false := beq_eq_false_iff_ne.mpr c6
     have c6b1 : (a0_3 != a1_3) = true := bne_iff_ne.mpr c6
     obtain rfl := Option.some.inj H
    rotate_left 1
   rotate_left 2
   focus
    rw [if_neg c5] at H
    have c5b0 : (a0_2 == a1_2) = false := beq_eq_false_iff_ne.mpr c5
    have c5b1 : (a0_2 != a1_2) = true := bne_iff_ne.mpr c5
    obtain rfl := Option.some.inj H
   rotate_left 1
  rotate_left 3
  focus
   rw [if_neg c4] at H
   have c4b0 : (a0_1 == a1_1) = false := beq_eq_false_iff_ne.mpr c4
   have c4b1 : (a0_1 != a1_1) = true := bne_iff_ne.mpr c4
   obtain rfl := Option.some.inj H
  rotate_left 1
 rotate_left 4
 focus
  rw [if_neg c3] at H
  have c3b0 : (a0_0 == a1_0) = false := beq_eq_false_iff_ne.mpr c3
  have c3b1 : (a0_0 != a1_0) = true := bne_iff_ne.mpr c3
  obtain rfl := Option.some.inj H
 rotate_left 1
 all_goals (go_enter Tryz.func75, Tryz.ntmps75)
 all_goals (go_wp2_with (first | ((with_reducible refine gate_dst (N := 2) rfl ?_); refine bx (N := 2) (cs := #[.int .i64 a0_0, .int .i64 a0_1, .int .i64 a0_2, .int .i64 a0_3, .int .i64 a0_4, .bool a0_5, .slice A0_6 l0_6.length c0_6, .slice A0_7 l0_7.length c0_7]) (t := 63) ?_; intro gb309 hg wq1 hbox hb; have BK309 := Aside0.mk (hbox); have GW309 := (gz hg HB : Aside0 (w.heap.size ≤ gb309)); have GE309 := (gz hg HB : Aside0 (w.heap.size ≤ gb309)); replace HB := Aside0.mk (below_step (bl HB) hb); clear hb hbox hg) | ((with_reducible refine gate_dst (N := 3) rfl ?_); refine bx (N := 3) (cs := #[.int .i64 a1_0, .int .i64 a1_1, .int .i64 a1_2, .int .i64 a1_3, .int .i64 a1_4, .bool a1_5, .slice A1_6 l1_6.length c1_6, .slice A1_7 l1_7.length c1_7]) (t := 63) ?_; intro gb310 hg wq2 hbox hb; have n0_ := Aside0.mk (blk_below (g := gb309) (o := .cells #[.int .i64 a0_0, .int .i64 a0_1, .int .i64 a0_2, .int .i64 a0_3, .int .i64 a0_4, .bool a0_5, .slice A0_6 l0_6.length c0_6, .slice A0_7 l0_7.length c0_7] 63 (0, 0)) (bk BK309) hb); have n1_ := Aside0.mk (below_step (bl HB) hb); have n2_ := Aside0.mk (hbox); have n3_ := (gz hg HB : Aside0 (w.heap.size ≤ gb310)); have n4_ := (gz hg HB : Aside0 (w.heap.size ≤ gb310)); have n5_ := Aside0.mk ((by rw [hg]; exact Nat.ne_of_lt (blk_lt (g := gb309) (o := .cells #[.int .i64 a0_0, .int .i64 a0_1, .int .i64 a0_2, .int .i64 a0_3, .int .i64 a0_4, .bool a0_5, .slice A0_6 l0_6.length c0_6, .slice A0_7 l0_7.length c0_7] 63 (0, 0)) (bk BK309)) : gb309 ≠ gb310)); have n6_ := Aside0.mk ((by rw [hg]; exact Nat.ne_of_gt (blk_lt (g := gb309) (o := .cells #[.int .i64 a0_0, .int .i64 a0_1, .int .i64 a0_2, .int .i64 a0_3, .int .i64 a0_4, .bool a0_5, .slice A0_6 l0_6.length c0_6, .slice A0_7 l0_7.length c0_7] 63 (0, 0)) (bk BK309)) : gb310 ≠ gb309)); clear BK309; clear HB; have BK309 := n0_; have HB := n1_; have BK310 := n2_; have GW310 := n3_; have GE310 := n4_; have NB309_310 := n5_; have NB310_309 := n6_; clear n0_ n1_ n2_ n3_ n4_ n5_ n6_; clear hb hbox hg; have hnb10 := NB309_310.out; have hnc10 := NB310_309.out; have hczq1_0 := blk_cell BK309.out 0; have hczq1_1 := blk_cell BK309.out 1; have hczq1_2 := blk_cell BK309.out 2; have hczq1_3 := blk_cell BK309.out 3; have hczq1_4 := blk_cell BK309.out 4; have hczq1_5 := blk_cell BK309.out 5; have hczq1_6 := blk_cell BK309.out 6; have hczq1_7 := blk_cell BK309.out 7; have hfzq1_0 := blk_frozen BK309.out 0; have hfzq1_1 := blk_frozen BK309.out 1; have hfzq1_2 := blk_frozen BK309.out 2; have hfzq1_3 := blk_frozen BK309.out 3; have hfzq1_4 := blk_frozen BK309.out 4; have hfzq1_5 := blk_frozen BK309.out 5; have hfzq1_6 := blk_frozen BK309.out 6; have hfzq1_7 := blk_frozen BK309.out 7; have hczq2_0 := blk_cell BK310.out 0; have hczq2_1 := blk_cell BK310.out 1; have hczq2_2 := blk_cell BK310.out 2; have hczq2_3 := blk_cell BK310.out 3; have hczq2_4 := blk_cell BK310.out 4; have hczq2_5 := blk_cell BK310.out 5; have hczq2_6 := blk_cell BK310.out 6; have hczq2_7 := blk_cell BK310.out 7; have hfzq2_0 := blk_frozen BK310.out 0; have hfzq2_1 := blk_frozen BK310.out 1; have hfzq2_2 := blk_frozen BK310.out 2; have hfzq2_3 := blk_frozen BK310.out 3; have hfzq2_4 := blk_frozen BK310.out 4; have hfzq2_5 := blk_frozen BK310.out 5; have hfzq2_6 := blk_frozen BK310.out 6; have hfzq2_7 := blk_frozen BK310.out 7) | (go_at_call 121; (with_reducible refine (code_sameRat.calls k a0_4 a0_5 _ _ l0_6 _ _ l0_7 a1_4 a1_5 _ _ l1_6 _ _ l1_7 t311 _ ?side1 ?side2 ?side3 ?side4 ?side5 ?side6 ?side7 ?side8 A7.out).mono ?_); (case side1 => exact cb HR0_6 HB); (case side2 => exact HC0_6.out); (case side3 => exact cb HR0_7 HB); (case side4 => exact HC0_7.out); (case side5 => exact cb HR1_6 HB); (case side6 => exact HC1_6.out); (case side7 => exact cb HR1_7 HB); (case side8 => exact HC1_7.out); rintro e wq3 ⟨rfl, hb⟩; replace BK309 := Aside0.mk (blk_below (g := gb309) (o := .cells #[.int .i64 a0_0, .int .i64 a0_1, .int .i64 a0_2, .int .i64 a0_3, .int .i64 a0_4, .bool a0_5, .slice A0_6 l0_6.length c0_6, .slice A0_7 l0_7.length c0_7] 63 (0, 0)) (bk BK309) hb); replace BK310 := Aside0.mk (blk_below (g := gb310) (o := .cells #[.int .i64 a1_0, .int .i64 a1_1, .int .i64 a1_2, .int .i64 a1_3, .int .i64 a1_4, .bool a1_5, .slice A1_6 l1_6.length c1_6, .slice A1_7 l1_7.length c1_7] 63 (0, 0)) (bk BK310) hb); replace HB := Aside0.mk (below_step (bl HB) hb); clear hb) | ((with_reducible refine gate_dst (N := 3) rfl ?_); refine bx (N := 3) (cs := #[.int .i64 a1_0, .int .i64 a1_1, .int .i64 a1_2, .int .i64 a1_3, .int .i64 a1_4, .bool a1_5, .slice A1_6 l1_6.length c1_6, .slice A1_7 l1_7.length c1_7]) (t := 63) ?_; intro gb310 hg wq2 hbox hb; have n0_ := Aside0.mk (blk_below (g := gb309) (o := .cells #[.int .i64 a0_0, .int .i64 a0_1, .int .i64 a0_2, .int .i64 a0_3, .int .i64 a0_4, .bool a0_5, .slice A0_6 l0_6.length c0_6, .slice A0_7 l0_7.length c0_7] 63 (0, 0)) (bk BK309) hb); have n1_ := Aside0.mk (below_step (bl HB) hb); have n2_ := Aside0.mk (hbox); have n3_ := (gz hg HB : Aside0 (w.heap.size ≤ gb310)); have n4_ := (gz hg HB : Aside0 (w.heap.size ≤ gb310)); have n5_ := Aside0.mk ((by rw [hg]; exact Nat.ne_of_lt (blk_lt (g := gb309) (o := .cells #[.int .i64 a0_0, .int .i64 a0_1, .int .i64 a0_2, .int .i64 a0_3, .int .i64 a0_4, .bool a0_5, .slice A0_6 l0_6.length c0_6, .slice A0_7 l0_7.length c0_7] 63 (0, 0)) (bk BK309)) : gb309 ≠ gb310)); have n6_ := Aside0.mk ((by rw [hg]; exact Nat.ne_of_gt (blk_lt (g := gb309) (o := .cells #[.int .i64 a0_0, .int .i64 a0_1, .int .i64 a0_2, .int .i64 a0_3, .int .i64 a0_4, .bool a0_5, .slice A0_6 l0_6.length c0_6, .slice A0_7 l0_7.length c0_7] 63 (0, 0)) (bk BK309)) : gb310 ≠ gb309)); clear BK309; clear HB; have BK309 := n0_; have HB := n1_; have BK310 := n2_; have GW310 := n3_; have GE310 := n4_; have NB309_310 := n5_; have NB310_309 := n6_; clear n0_ n1_ n2_ n3_ n4_ n5_ n6_; clear hb hbox hg; have hnb16 := NB309_310.out; have hnc16 := NB310_309.out; have hczq1_0 := blk_cell BK309.out 0; have hczq1_1 := blk_cell BK309.out 1; have hczq1_2 := blk_cell BK309.out 2; have hczq1_3 := blk_cell BK309.out 3; have hczq1_4 := blk_cell BK309.out 4; have hczq1_5 := blk_cell BK309.out 5; have hczq1_6 := blk_cell BK309.out 6; have hczq1_7 := blk_cell BK309.out 7; have hfzq1_0 := blk_frozen BK309.out 0; have hfzq1_1 := blk_frozen BK309.out 1; have hfzq1_2 := blk_frozen BK309.out 2; have hfzq1_3 := blk_frozen BK309.out 3; have hfzq1_4 := blk_frozen BK309.out 4; have hfzq1_5 := blk_frozen BK309.out 5; have hfzq1_6 := blk_frozen BK309.out 6; have hfzq1_7 := blk_frozen BK309.out 7; have hczq2_0 := blk_cell BK310.out 0; have hczq2_1 := blk_cell BK310.out 1; have hczq2_2 := blk_cell BK310.out 2; have hczq2_3 := blk_cell BK310.out 3; have hczq2_4 := blk_cell BK310.out 4; have hczq2_5 := blk_cell BK310.out 5; have hczq2_6 := blk_cell BK310.out 6; have hczq2_7 := blk_cell BK310.out 7; have hfzq2_0 := blk_frozen BK310.out 0; have hfzq2_1 := blk_frozen BK310.out 1; have hfzq2_2 := blk_frozen BK310.out 2; have hfzq2_3 := blk_frozen BK310.out 3; have hfzq2_4 := blk_frozen BK310.out 4; have hfzq2_5 := blk_frozen BK310.out 5; have hfzq2_6 := blk_frozen BK310.out 6; have hfzq2_7 := blk_frozen BK310.out 7) | ((with_reducible refine gate_dst (N := 3) rfl ?_); refine bx (N := 3) (cs := #[.int .i64 a1_0, .int .i64 a1_1, .int .i64 a1_2, .int .i64 a1_3, .int .i64 a1_4, .bool a1_5, .slice A1_6 l1_6.length c1_6, .slice A1_7 l1_7.length c1_7]) (t := 63) ?_; intro gb310 hg wq2 hbox hb; have n0_ := Aside0.mk (blk_below (g := gb309) (o := .cells #[.int .i64 a0_0, .int .i64 a0_1, .int .i64 a0_2, .int .i64 a0_3, .int .i64 a0_4, .bool a0_5, .slice A0_6 l0_6.length c0_6, .slice A0_7 l0_7.length c0_7] 63 (0, 0)) (bk BK309) hb); have n1_ := Aside0.mk (below_step (bl HB) hb); have n2_ := Aside0.mk (hbox); have n3_ := (gz hg HB : Aside0 (w.heap.size ≤ gb310)); have n4_ := (gz hg HB : Aside0 (w.heap.size ≤ gb310)); have n5_ := Aside0.mk ((by rw [hg]; exact Nat.ne_of_lt (blk_lt (g := gb309) (o := .cells #[.int .i64 a0_0, .int .i64 a0_1, .int .i64 a0_2, .int .i64 a0_3, .int .i64 a0_4, .bool a0_5, .slice A0_6 l0_6.length c0_6, .slice A0_7 l0_7.length c0_7] 63 (0, 0)) (bk BK309)) : gb309 ≠ gb310)); have n6_ := Aside0.mk ((by rw [hg]; exact Nat.ne_of_gt (blk_lt (g := gb309) (o := .cells #[.int .i64 a0_0, .int .i64 a0_1, .int .i64 a0_2, .int .i64 a0_3, .int .i64 a0_4, .bool a0_5, .slice A0_6 l0_6.length c0_6, .slice A0_7 l0_7.length c0_7] 63 (0, 0)) (bk BK309)) : gb310 ≠ gb309)); clear BK309; clear HB; have BK309 := n0_; have HB := n1_; have BK310 := n2_; have GW310 := n3_; have GE310 := n4_; have NB309_310 := n5_; have NB310_309 := n6_; clear n0_ n1_ n2_ n3_ n4_ n5_ n6_; clear hb hbox hg; have hnb21 := NB309_310.out; have hnc21 := NB310_309.out; have hczq1_0 := blk_cell BK309.out 0; have hczq1_1 := blk_cell BK309.out 1; have hczq1_2 := blk_cell BK309.out 2; have hczq1_3 := blk_cell BK309.out 3; have hczq1_4 := blk_cell BK309.out 4; have hczq1_5 := blk_cell BK309.out 5; have hczq1_6 := blk_cell BK309.out 6; have hczq1_7 := blk_cell BK309.out 7; have hfzq1_0 := blk_frozen BK309.out 0; have hfzq1_1 := blk_frozen BK309.out 1; have hfzq1_2 := blk_frozen BK309.out 2; have hfzq1_3 := blk_frozen BK309.out 3; have hfzq1_4 := blk_frozen BK309.out 4; have hfzq1_5 := blk_frozen BK309.out 5; have hfzq1_6 := blk_frozen BK309.out 6; have hfzq1_7 := blk_frozen BK309.out 7; have hczq2_0 := blk_cell BK310.out 0; have hczq2_1 := blk_cell BK310.out 1; have hczq2_2 := blk_cell BK310.out 2; have hczq2_3 := blk_cell BK310.out 3; have hczq2_4 := blk_cell BK310.out 4; have hczq2_5 := blk_cell BK310.out 5; have hczq2_6 := blk_cell BK310.out 6; have hczq2_7 := blk_cell BK310.out 7; have hfzq2_0 := blk_frozen BK310.out 0; have hfzq2_1 := blk_frozen BK310.out 1; have hfzq2_2 := blk_frozen BK310.out 2; have hfzq2_3 := blk_frozen BK310.out 3; have hfzq2_4 := blk_frozen BK310.out 4; have hfzq2_5 := blk_frozen BK310.out 5; have hfzq2_6 := blk_frozen BK310.out 6; have hfzq2_7 := blk_frozen BK310.out 7) | ((with_reducible refine gate_dst (N := 3) rfl ?_); refine bx (N := 3) (cs := #[.int .i64 a1_0, .int .i64 a1_1, .int .i64 a1_2, .int .i64 a1_3, .int .i64 a1_4, .bool a1_5, .slice A1_6 l1_6.length c1_6, .slice A1_7 l1_7.length c1_7]) (t := 63) ?_; intro gb310 hg wq2 hbox hb; have n0_ := Aside0.mk (blk_below (g := gb309) (o := .cells #[.int .i64 a0_0, .int .i64 a0_1, .int .i64 a0_2, .int .i64 a0_3, .int .i64 a0_4, .bool a0_5, .slice A0_6 l0_6.length c0_6, .slice A0_7 l0_7.length c0_7] 63 (0, 0)) (bk BK309) hb); have n1_ := Aside0.mk (below_step (bl HB) hb); have n2_ := Aside0.mk (hbox); have n3_ := (gz hg HB : Aside0 (w.heap.size ≤ gb310)); have n4_ := (gz hg HB : Aside0 (w.heap.size ≤ gb310)); have n5_ := Aside0.mk ((by rw [hg]; exact Nat.ne_of_lt (blk_lt (g := gb309) (o := .cells #[.int .i64 a0_0, .int .i64 a0_1, .int .i64 a0_2, .int .i64 a0_3, .int .i64 a0_4, .bool a0_5, .slice A0_6 l0_6.length c0_6, .slice A0_7 l0_7.length c0_7] 63 (0, 0)) (bk BK309)) : gb309 ≠ gb310)); have n6_ := Aside0.mk ((by rw [hg]; exact Nat.ne_of_gt (blk_lt (g := gb309) (o := .cells #[.int .i64 a0_0, .int .i64 a0_1, .int .i64 a0_2, .int .i64 a0_3, .int .i64 a0_4, .bool a0_5, .slice A0_6 l0_6.length c0_6, .slice A0_7 l0_7.length c0_7] 63 (0, 0)) (bk BK309)) : gb310 ≠ gb309)); clear BK309; clear HB; have BK309 := n0_; have HB := n1_; have BK310 := n2_; have GW310 := n3_; have GE310 := n4_; have NB309_310 := n5_; have NB310_309 := n6_; clear n0_ n1_ n2_ n3_ n4_ n5_ n6_; clear hb hbox hg; have hnb26 := NB309_310.out; have hnc26 := NB310_309.out; have hczq1_0 := blk_cell BK309.out 0; have hczq1_1 := blk_cell BK309.out 1; have hczq1_2 := blk_cell BK309.out 2; have hczq1_3 := blk_cell BK309.out 3; have hczq1_4 := blk_cell BK309.out 4; have hczq1_5 := blk_cell BK309.out 5; have hczq1_6 := blk_cell BK309.out 6; have hczq1_7 := blk_cell BK309.out 7; have hfzq1_0 := blk_frozen BK309.out 0; have hfzq1_1 := blk_frozen BK309.out 1; have hfzq1_2 := blk_frozen BK309.out 2; have hfzq1_3 := blk_frozen BK309.out 3; have hfzq1_4 := blk_frozen BK309.out 4; have hfzq1_5 := blk_frozen BK309.out 5; have hfzq1_6 := blk_frozen BK309.out 6; have hfzq1_7 := blk_frozen BK309.out 7; have hczq2_0 := blk_cell BK310.out 0; have hczq2_1 := blk_cell BK310.out 1; have hczq2_2 := blk_cell BK310.out 2; have hczq2_3 := blk_cell BK310.out 3; have hczq2_4 := blk_cell BK310.out 4; have hczq2_5 := blk_cell BK310.out 5; have hczq2_6 := blk_cell BK310.out 6; have hczq2_7 := blk_cell BK310.out 7; have hfzq2_0 := blk_frozen BK310.out 0; have hfzq2_1 := blk_frozen BK310.out 1; have hfzq2_2 := blk_frozen BK310.out 2; have hfzq2_3 := blk_frozen BK310.out 3; have hfzq2_4 := blk_frozen BK310.out 4; have hfzq2_5 := blk_frozen BK310.out 5; have hfzq2_6 := blk_frozen BK310.out 6; have hfzq2_7 := blk_frozen BK310.out 7) | ((with_reducible refine gate_dst (N := 3) rfl ?_); refine bx (N := 3) (cs := #[.int .i64 a1_0, .int .i64 a1_1, .int .i64 a1_2, .int .i64 a1_3, .int .i64 a1_4, .bool a1_5, .slice A1_6 l1_6.length c1_6, .slice A1_7 l1_7.length c1_7]) (t := 63) ?_; intro gb310 hg wq2 hbox hb; have n0_ := Aside0.mk (blk_below (g := gb309) (o := .cells #[.int .i64 a0_0, .int .i64 a0_1, .int .i64 a0_2, .int .i64 a0_3, .int .i64 a0_4, .bool a0_5, .slice A0_6 l0_6.length c0_6, .slice A0_7 l0_7.length c0_7] 63 (0, 0)) (bk BK309) hb); have n1_ := Aside0.mk (below_step (bl HB) hb); have n2_ := Aside0.mk (hbox); have n3_ := (gz hg HB : Aside0 (w.heap.size ≤ gb310)); have n4_ := (gz hg HB : Aside0 (w.heap.size ≤ gb310)); have n5_ := Aside0.mk ((by rw [hg]; exact Nat.ne_of_lt (blk_lt (g := gb309) (o := .cells #[.int .i64 a0_0, .int .i64 a0_1, .int .i64 a0_2, .int .i64 a0_3, .int .i64 a0_4, .bool a0_5, .slice A0_6 l0_6.length c0_6, .slice A0_7 l0_7.length c0_7] 63 (0, 0)) (bk BK309)) : gb309 ≠ gb310)); have n6_ := Aside0.mk ((by rw [hg]; exact Nat.ne_of_gt (blk_lt (g := gb309) (o := .cells #[.int .i64 a0_0, .int .i64 a0_1, .int .i64 a0_2, .int .i64 a0_3, .int .i64 a0_4, .bool a0_5, .slice A0_6 l0_6.length c0_6, .slice A0_7 l0_7.length c0_7] 63 (0, 0)) (bk BK309)) : gb310 ≠ gb309)); clear BK309; clear HB; have BK309 := n0_; have HB := n1_; have BK310 := n2_; have GW310 := n3_; have GE310 := n4_; have NB309_310 := n5_; have NB310_309 := n6_; clear n0_ n1_ n2_ n3_ n4_ n5_ n6_; clear hb hbox hg; have hnb31 := NB309_310.out; have hnc31 := NB310_309.out; have hczq1_0 := blk_cell BK309.out 0; have hczq1_1 := blk_cell BK309.out 1; have hczq1_2 := blk_cell BK309.out 2; have hczq1_3 := blk_cell BK309.out 3; have hczq1_4 := blk_cell BK309.out 4; have hczq1_5 := blk_cell BK309.out 5; have hczq1_6 := blk_cell BK309.out 6; have hczq1_7 := blk_cell BK309.out 7; have hfzq1_0 := blk_frozen BK309.out 0; have hfzq1_1 := blk_frozen BK309.out 1; have hfzq1_2 := blk_frozen BK309.out 2; have hfzq1_3 := blk_frozen BK309.out 3; have hfzq1_4 := blk_frozen BK309.out 4; have hfzq1_5 := blk_frozen BK309.out 5; have hfzq1_6 := blk_frozen BK309.out 6; have hfzq1_7 := blk_frozen BK309.out 7; have hczq2_0 := blk_cell BK310.out 0; have hczq2_1 := blk_cell BK310.out 1; have hczq2_2 := blk_cell BK310.out 2; have hczq2_3 := blk_cell BK310.out 3; have hczq2_4 := blk_cell BK310.out 4; have hczq2_5 := blk_cell BK310.out 5; have hczq2_6 := blk_cell BK310.out 6; have hczq2_7 := blk_cell BK310.out 7; have hfzq2_0 := blk_frozen BK310.out 0; have hfzq2_1 := blk_frozen BK310.out 1; have hfzq2_2 := blk_frozen BK310.out 2; have hfzq2_3 := blk_frozen BK310.out 3; have hfzq2_4 := blk_frozen BK310.out 4; have hfzq2_5 := blk_frozen BK310.out 5; have hfzq2_6 := blk_frozen BK310.out 6; have hfzq2_7 := blk_frozen BK310.out 7)))
 ·go_ret
  exact ⟨re, bl HB⟩
 ·go_ret
  exact ⟨re, bl HB⟩
 ·go_ret
  exact ⟨re, bl HB⟩
 ·go_ret
  exact ⟨re, bl HB⟩
 ·go_ret
  exact ⟨re, bl HB⟩
end Go.Proofs.YtbkknoipgmlcmaaGreatDoor.P

