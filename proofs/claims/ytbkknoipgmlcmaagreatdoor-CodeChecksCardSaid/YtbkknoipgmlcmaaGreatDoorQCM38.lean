import Derived.Test.YtbkknoipgmlcmaaGreatDoorQCM37
set_option linter.unusedVariables false
set_option linter.unusedSimpArgs false
set_option maxHeartbeats 8000000
set_option maxRecDepth 100000
namespace Go.Proofs.YtbkknoipgmlcmaaGreatDoor.P
open Go.RowKit Go.Proofs.YtbkknoipgmlcmaaGreatDoorW.PrintWords Go.Proofs.YtbkknoipgmlcmaaGreatDoorW.PrintLast Go.Proofs.YtbkknoipgmlcmaaGreatDoorW.PrintMore
open Go.Proofs.FX
attribute [local go_sem] cell_twice le_add_cast
attribute [local go_sem] max2_int min2_int max_two min_two max_three min_three max_four min_four
def fluxionlaw29_square.f  : Option ((List (S50))) := (some (([(⟨1, ([] : List Int)⟩ : S115)] : List (S115)) : List (S115))).bind fun y419 => (some (([(⟨(⟨#[102]⟩ : ByteArray), y419, y419, 2, (([(⟨8, 1, 0, 0, (⟨0, false, ([] : List Int), ([] : List Int)⟩ : S61)⟩ : S63), (⟨26, 1, 0, 0, (⟨0, false, ([] : List Int), ([] : List Int)⟩ : S61)⟩ : S63)] : List (S63)))⟩ : S50)] : List (S50))))
theorem fluxionlaw29_square.calls  (r : List (S50)) (w : World) (h : fluxionlaw29_square.f  = some r) :
 Calls Tryz.prog 38 #[] w fun e w' => ∃ v0_ : Value, e = .returned (v0_) ∧ Kd.N k50 50 w' w.heap.size (fun k_ => (w.heap.size ≤ k_)) v0_ r ∧ Below w.heap.size w w' := by
 have hu115 := Tryz.underlying115
 have hu63 := Tryz.underlying63
 have hu50 := Tryz.underlying50
 have HB := aS (Below.refl w.heap.size w)
 have H := h
 unfold fluxionlaw29_square.f at H
 clear h
 obtain ⟨y419, hy419⟩ : ∃ y_ : List (S115), y_ = (([(⟨1, ([] : List Int)⟩ : S115)] : List (S115))) := ⟨_, rfl⟩
 first | replace H := bsB H hy419 | rw [← hy419] at H
 have Ny419 := aS hy419
 clear hy419
 obtain ⟨y422, hy422⟩ : ∃ y_ : List (S63), y_ = (([(⟨8, 1, 0, 0, (⟨0, false, ([] : List Int), ([] : List Int)⟩ : S61)⟩ : S63), (⟨26, 1, 0, 0, (⟨0, false, ([] : List Int), ([] : List Int)⟩ : S61)⟩ : S63)] : List (S63))) := ⟨_, rfl⟩
 first | replace H := bsB H hy422 | rw [← hy422] at H
 have Ny422 := aS hy422
 clear hy422
 obtain ⟨y425, hy425⟩ : ∃ y_ : List (S50), y_ = (([(⟨(⟨#[102]⟩ : ByteArray), y419, y419, 2, y422⟩ : S50)] : List (S50))) := ⟨_, rfl⟩
 first | replace H := bsB H hy425 | rw [← hy425] at H
 have Ny425 := aS hy425
 clear hy425
 obtain rfl := sI H
 go_enter Tryz.func38, Tryz.ntmps38
 go_wp2_with (first | ((with_reducible refine gate_dst (N := 3) rfl ?_); refine Kd.N_lit k115 _ 115 ?hg (N' := 3) ?hd (xs := ([(⟨1, ([] : List Int)⟩ : S115)] : List (S115))) (inner := [.int .i64 1, .slice none 0 0]) (ok := (fun k_ => (w.heap.size ≤ k_))) (okp := (fun k_ => (w.heap.size ≤ k_))) ?hr ?hp (fun _ hk => hk) ((show ∀ k_, w.heap.size ≤ k_ → (fun k_ => (w.heap.size ≤ k_)) k_ from fun k_ hk => (Nat.le_trans (below_size (bl HB)) hk)) _ (Nat.le_refl _)) (Below.refl _ _) (Nat.le_refl _) (by simp) ?_; (case hd => rfl); (case hg => rfl); (case hr => first | (go_simp; done) | (go_simp; rfl)); (case hp => exact (Reps.c2 (show Kd.FK k115 _ _ (⟨1, ([] : List Int)⟩ : S115) [.int .i64 1, .slice none 0 0] from (k115_mkF _ _ (⟨1, ([] : List Int)⟩ : S115) (Nat.le_refl _) (Kd.F_nil _ _ _))) (Reps.none _ _))); intro v420 w1 ho2 hb hg_ hnew_; clear hg_ hnew_; (first | rw [← Ny419.out] at ho2 | (simp only [Int.reduceToNat] at ho2; rw [← Ny419.out] at ho2)); have HO421 := aS (Kd.N_lower ho2 (below_size (bl HB))); replace HB := aS (bs_ (bl HB) hb); clear hb ho2) | ((with_reducible refine gate_dst (N := 8) rfl ?_); refine Kd.N_lit k63 _ 63 ?hg (N' := 8) ?hd (xs := ([(⟨8, 1, 0, 0, (⟨0, false, ([] : List Int), ([] : List Int)⟩ : S61)⟩ : S63), (⟨26, 1, 0, 0, (⟨0, false, ([] : List Int), ([] : List Int)⟩ : S61)⟩ : S63)] : List (S63))) (inner := [.int .i64 8, .int .i64 1, .int .i64 0, .int .i64 0, .int .i64 0, .bool false, .slice none 0 0, .slice none 0 0, .int .i64 26, .int .i64 1, .int .i64 0, .int .i64 0, .int .i64 0, .bool false, .slice none 0 0, .slice none 0 0]) (ok := (fun k_ => (w.heap.size ≤ k_) ∧ some k_ ≠ (v420 : Value).ownBlock)) (okp := (fun k_ => (w.heap.size ≤ k_) ∧ some k_ ≠ (v420 : Value).ownBlock)) ?hr ?hp (fun _ hk => hk) ((show ∀ k_, w1.heap.size ≤ k_ → (fun k_ => (w.heap.size ≤ k_) ∧ some k_ ≠ (v420 : Value).ownBlock) k_ from fun k_ hk => ⟨(Nat.le_trans (below_size (bl HB)) hk), Kd.fresh' (Kd.N_lt (by exact nA HO421.out)) k_ hk⟩) _ (Nat.le_refl _)) (Below.refl _ _) (Nat.le_refl _) (by simp) ?_; (case hd => rfl); (case hg => rfl); (case hr => first | (go_simp; done) | (go_simp; rfl)); (case hp => exact (Reps.c8 (show Kd.FK k63 _ _ (⟨8, 1, 0, 0, (⟨0, false, ([] : List Int), ([] : List Int)⟩ : S61)⟩ : S63) [.int .i64 8, .int .i64 1, .int .i64 0, .int .i64 0, .int .i64 0, .bool false, .slice none 0 0, .slice none 0 0] from (k63_mkF _ _ (⟨8, 1, 0, 0, (⟨0, false, ([] : List Int), ([] : List Int)⟩ : S61)⟩ : S63) (Nat.le_refl _) (Kd.F_nil _ _ _) (Nat.le_refl _) (Kd.F_nil _ _ _))) (Reps.c8 (show Kd.FK k63 _ _ (⟨26, 1, 0, 0, (⟨0, false, ([] : List Int), ([] : List Int)⟩ : S61)⟩ : S63) [.int .i64 26, .int .i64 1, .int .i64 0, .int .i64 0, .int .i64 0, .bool false, .slice none 0 0, .slice none 0 0] from (k63_mkF _ _ (⟨26, 1, 0, 0, (⟨0, false, ([] : List Int), ([] : List Int)⟩ : S61)⟩ : S63) (Nat.le_refl _) (Kd.F_nil _ _ _) (Nat.le_refl _) (Kd.F_nil _ _ _))) (Reps.none _ _)))); intro v423 w3 ho4 hb hg_ hnew_; clear hg_ hnew_; (first | rw [← Ny422.out] at ho4 | (simp only [Int.reduceToNat] at ho4; rw [← Ny422.out] at ho4)); replace HO421 := aS (Kd.N_elder' (by exact nA HO421.out) (Kd.N_base ho4) hb); have HO424 := aS (Kd.N_lower ho4 (below_size (bl HB))); replace HB := aS (bs_ (bl HB) hb); clear hb ho4; obtain ⟨Ao5, co5, eo5⟩ := Kd.N_slice HO424.out; subst eo5; obtain ⟨Ao6, co6, eo6⟩ := Kd.N_slice HO421.out; subst eo6) | ((with_reducible refine gate_dst (N := 10) rfl ?_); refine Kd.N_lit k50 _ 50 ?hg (N' := 10) ?hd (xs := ([(⟨(⟨#[102]⟩ : ByteArray), y419, y419, 2, y422⟩ : S50)] : List (S50))) (inner := [.string (⟨#[102]⟩ : ByteArray), .slice Ao6 y419.length co6, .slice Ao6 y419.length co6, .int .i64 2, .slice Ao5 y422.length co5]) (ok := (fun k_ => (w.heap.size ≤ k_))) (okp := (fun k_ => (w.heap.size ≤ k_))) ?hr ?hp (fun _ hk => hk) ((show ∀ k_, w3.heap.size ≤ k_ → (fun k_ => (w.heap.size ≤ k_)) k_ from fun k_ hk => (Nat.le_trans (below_size (bl HB)) hk)) _ (Nat.le_refl _)) (Below.refl _ _) (Nat.le_refl _) (by simp) ?_; (case hd => rfl); (case hg => rfl); (case hr => first | (go_simp; done) | (go_simp; rfl)); (case hp => exact (Reps.c5 (show Kd.FK k50 _ _ (⟨(⟨#[102]⟩ : ByteArray), y419, y419, 2, y422⟩ : S50) [.string (⟨#[102]⟩ : ByteArray), .slice Ao6 y419.length co6, .slice Ao6 y419.length co6, .int .i64 2, .slice Ao5 y422.length co5] from (k50_mkF _ _ (⟨(⟨#[102]⟩ : ByteArray), y419, y419, 2, y422⟩ : S50) (Kd.N_reads' (Kd.N_mono (ok' := (fun k_ => (w.heap.size ≤ k_))) (HO421.out) (fun k_ hk => hk.1))).2.1 (Kd.N_F (Kd.N_mono (ok' := (fun k_ => (w.heap.size ≤ k_))) (HO421.out) (fun k_ hk => hk.1))) (Kd.N_reads' (Kd.N_mono (ok' := (fun k_ => (w.heap.size ≤ k_))) (HO421.out) (fun k_ hk => hk.1))).2.1 (Kd.N_F (Kd.N_mono (ok' := (fun k_ => (w.heap.size ≤ k_))) (HO421.out) (fun k_ hk => hk.1))) (Kd.N_reads' (Kd.N_mono (ok' := (fun k_ => (w.heap.size ≤ k_))) (HO424.out) (fun k_ hk => hk.1))).2.1 (Kd.N_F (Kd.N_mono (ok' := (fun k_ => (w.heap.size ≤ k_))) (HO424.out) (fun k_ hk => hk.1))))) (Reps.none _ _))); intro v426 w7 ho8 hb hg_ hnew_; clear hg_ hnew_; (first | rw [← Ny425.out] at ho8 | (simp only [Int.reduceToNat] at ho8; rw [← Ny425.out] at ho8)); have HO427 := aS (Kd.N_lower ho8 (below_size (bl HB))); replace HB := aS (bs_ (bl HB) hb); clear HO421 HO424; clear hb ho8))
 go_ret
 exact ⟨_, re, by exact nA HO427.out, bl HB⟩
def fluxionlaw29_alive.f (k : Nat)  : Option (Bool) := (fluxionlaw29_square.f).bind fun t428 => ((code_Text.f t428).bind fun bt431 => ((fluxionlaw29_square.f).bind fun t433 => ((code_Bytes.f t433).bind fun bt436 => ((code_Parse.f bt436.1).bind fun bt440 => (if bt431.2 = 0 then (if bt431.1.toList = ([114, 111, 117, 116, 105, 110, 101, 32, 102, 40, 114, 101, 97, 108, 41, 32, 40, 114, 101, 97, 108, 41, 32, 50, 10, 32, 32, 109, 117, 108, 32, 49, 32, 48, 32, 48, 10, 32, 32, 114, 101, 116, 117, 114, 110, 32, 49, 10] : List UInt8) then (if bt436.2 = 0 then (if bt440.2.2 = 0 then ((fluxionlaw29_square.f).bind fun t445 => ((fluxionref29_Same.f bt440.1 t445).bind fun t448 => (if t448 = true then ((fluxionlaw29_square.f).bind fun t449 => ((code_IsCode.f k t449).bind fun t452 => (some t452))) else (some false)))) else (some false)) else (some false)) else (some false)) else (some false))))))
theorem fluxionlaw29_alive.mono : ∀ k, LeO (fluxionlaw29_alive.f k ) (fluxionlaw29_alive.f (k + 1) ) := by
 intro  k
 unfold fluxionlaw29_alive.f
 repeat' first
  | (with_reducible exact code_IsCode.mono _ _)
  | (with_reducible exact LeO.refl _)
  | (with_reducible exact LeO.none _)
  | (with_reducible refine LeO.ite ?_ ?_)
  | (with_reducible refine LeO.bind ?_ (fun _ => ?_))
  | exact code_IsCode.mono _ _
  | exact LeO.none _
  | refine LeO.ite ?_ ?_
  | refine LeO.bind ?_ (fun _ => ?_)
theorem fluxionlaw29_alive.calls (k : Nat)  (r : Bool) (w : World) (hG : GW w) (h : fluxionlaw29_alive.f k  = some r) :
 Calls Tryz.prog 16 #[] w fun e w' => e = .returned (.bool r) ∧ Below w.heap.size w w' := by
 have HG := aS hG
 clear hG
 have HB := aS (Below.refl w.heap.size w)
 have H := h
 unfold fluxionlaw29_alive.f at H
 clear h
 replace H := bS H
 obtain ⟨t428, A10, H⟩ := H
 (try dsimp only at H)
 have A1 := aS A10
 clear A10
 replace H := bS H
 obtain ⟨⟨t431, t432⟩, A20, H⟩ := H
 (try dsimp only at H)
 have A2 := aS A20
 clear A20
 replace H := bS H
 obtain ⟨t433, A30, H⟩ := H
 (try dsimp only at H)
 have A3 := aS A30
 clear A30
 replace H := bS H
 obtain ⟨⟨t436, t437⟩, A40, H⟩ := H
 (try dsimp only at H)
 have A4 := aS A40
 clear A40
 replace H := bS H
 obtain ⟨⟨t440, t441, t442⟩, A50, H⟩ := H
 (try dsimp only at H)
 have A5 := aS A50
 clear A50
 by_cases c6 : t432 = 0
 focus
  rw [if_pos c6] at H
  have c6b0 := bT c6
  have c6b1 := nF c6
  clear c6
  by_cases c7 : t431.toList = ([114, 111, 117, 116, 105, 110, 101, 32, 102, 40, 114, 101, 97, 108, 41, 32, 40, 114, 101, 97, 108, 41, 32, 50, 10, 32, 32, 109, 117, 108, 32, 49, 32, 48, 32, 48, 10, 32, 32, 114, 101, 116, 117, 114, 110, 32, 49, 10] : List UInt8)
  focus
   rw [if_pos c7] at H
   have c7b0 := bT c7
   have c7b1 := nF c7
   clear c7
   by_cases c8 : t437 = 0
   focus
    rw [if_pos c8] at H
    have c8b0 := bT c8
    have c8b1 := nF c8
    clear c8
    by_cases c9 : t442 = 0
    focus
     rw [if_pos c9] at H
     have c9b0 := bT c9
     have c9b1 := nF c9
     clear c9
     replace H := bS H
     obtain ⟨t445, A100, H⟩ := H
     (try dsimp only at H)
     have A10 := aS A100
     clear A100
     replace H := bS H
     obtain ⟨t448, A110, H⟩ := H
     (try dsimp only at H)
     have A11 := aS A110
     clear A110
     by_cases c12 : t448 = true
     focus
      subst c12
      rw [if_pos rfl] at H
      replace H := bS H
      obtain ⟨t449, A130, H⟩ := H
      (try dsimp only at H)
      have A13 := aS A130
      clear A130
      replace H := bS H
      obtain ⟨t452, A140, H⟩ := H
      (try dsimp only at H)
      have A14 := aS A140
      clear A140
      obtain rfl := sI H
     rotate_left 1
     focus
      replace c12 := Bool.eq_false_iff.mpr c12
      subst c12
      rw [if_neg iN] at H
      obtain rfl := sI H
     rotate_left 1
    rotate_left 2
    focus
     rw [if_neg c9] at H
     have c9b0 := bF c9
     have c9b1 := nT c9
     obtain rfl := sI H
    rotate_left 1
   rotate_left 3
   focus
    rw [if_neg c8] at H
    have c8b0 := bF c8
    have c8b1 := nT c8
    obtain rfl := sI H
   rotate_left 1
  rotate_left 4
  focus
   rw [if_neg c7] at H
   have c7b0 := bF c7
   have c7b1 := nT c7
   obtain rfl := sI H
  rotate_left 1
 rotate_left 5
 focus
  rw [if_neg c6] at H
  have c6b0 := bF c6
  have c6b1 := nT c6
  obtain rfl := sI H
 rotate_left 1
 all_goals (go_enter Tryz.func16, Tryz.ntmps16)
 all_goals (go_wp2_with (first | ((with_reducible refine gate_callee (f := 38) rfl ?_); refine gl 9 Tryz.func38 #[] ?_; (with_reducible refine (fluxionlaw29_square.calls  t428 _ A1.out).mono ?_); rintro e wq1 ⟨v429, rfl, ho0, hb⟩; refine ⟨_, rfl, ?_⟩; have HO430 := aS (Kd.N_lower (Kd.N_mono (ok' := fun k_ => True) ho0 (fun k_ hk_ => trivial)) (below_size (bl HB))); replace HB := aS (bs_ (bl HB) hb); clear hb ho0; obtain ⟨Aoq1, coq1, eoq1⟩ := Kd.N_slice HO430.out; subst eoq1) | ((with_reducible refine gate_callee (f := 18) rfl ?_); refine gl 10 Tryz.func18 #[.slice Aoq1 t428.length coq1] ?_; (with_reducible refine (code_Text.calls _ _ t428 t431 t432 _ ?side1 ?side2 ?side3 A2.out).mono ?_); (case side1 => exact GW.below HG.out (bl HB)); (case side2 => repeat (first | exact (Kd.N_reads' HO430.out).2.2 | (with_reducible refine Kd.C_alloc ?_ _) | (with_reducible refine Kd.C_drewN ?_ _) | (with_reducible refine Kd.C_drew ?_))); (case side3 => exact (Kd.N_reads' HO430.out).2.1); rintro e wq2 ⟨rfl, hb⟩; refine ⟨_, rfl, ?_⟩; replace HO430 := aS (Kd.N_below (by exact nA HO430.out) hb); replace HB := aS (bs_ (bl HB) hb); clear hb) | ((with_reducible refine gate_callee (f := 38) rfl ?_); refine gl 14 Tryz.func38 #[] ?_; (with_reducible refine (fluxionlaw29_square.calls  t433 _ A3.out).mono ?_); rintro e wq3 ⟨v434, rfl, ho0, hb⟩; refine ⟨_, rfl, ?_⟩; have HO435 := aS (Kd.N_lower (Kd.N_mono (ok' := fun k_ => some k_ ≠ (.slice Aoq1 t428.length coq1 : Value).ownBlock) ho0 (fun k_ hk_ => (Kd.fresh' (Kd.N_lt (by exact nA HO430.out)) k_ hk_))) (below_size (bl HB))); replace HO430 := aS (Kd.N_elder' (by exact nA HO430.out) (Kd.N_base ho0) hb); replace HB := aS (bs_ (bl HB) hb); clear hb ho0; obtain ⟨Aoq2, coq2, eoq2⟩ := Kd.N_slice HO435.out; subst eoq2) | ((with_reducible refine gate_callee (f := 17) rfl ?_); refine gl 15 Tryz.func17 #[.slice Aoq2 t433.length coq2] ?_; (with_reducible refine (code_Bytes.calls _ _ t433 t436 t437 _ ?side1 ?side2 ?side3 A4.out).mono ?_); (case side1 => exact GW.below HG.out (bl HB)); (case side2 => repeat (first | exact (Kd.N_reads' HO435.out).2.2 | (with_reducible refine Kd.C_alloc ?_ _) | (with_reducible refine Kd.C_drewN ?_ _) | (with_reducible refine Kd.C_drew ?_))); (case side3 => exact (Kd.N_reads' HO435.out).2.1); rintro e wq4 ⟨v438, rfl, ho0, hb⟩; refine ⟨_, rfl, ?_⟩; replace HO430 := aS (Kd.N_elder' (by exact nA HO430.out) (Kd.R_base ho0) hb); replace HO435 := aS (Kd.N_elder' (by exact nA HO435.out) (Kd.R_base ho0) hb); have HO439 := aS (Kd.R_lower ho0 (below_size (bl HB))); replace HB := aS (bs_ (bl HB) hb); clear hb ho0; obtain ⟨Aoq3, coq3, eoq3⟩ := Kd.R_slice HO439.out; subst eoq3) | ((with_reducible refine gate_callee (f := 22) rfl ?_); refine gl 20 Tryz.func22 #[.slice Aoq3 t436.length coq3] ?_; (with_reducible refine (code_Parse.calls _ _ t436 t440 t441 t442 _ ?side1 ?side2 ?side3 A5.out).mono ?_); (case side1 => exact GW.below HG.out (bl HB)); (case side2 => repeat (first | exact (Kd.R_reads' HO439.out).2.2 | (with_reducible refine Kd.C_alloc ?_ _) | (with_reducible refine Kd.C_drewN ?_ _) | (with_reducible refine Kd.C_drew ?_))); (case side3 => exact (Kd.R_reads' HO439.out).2.1); rintro e wq5 ⟨v443, rfl, ho0, hb⟩; refine ⟨_, rfl, ?_⟩; have HO444 := aS (Kd.N_lower (Kd.N_mono (ok' := fun k_ => some k_ ≠ (.slice Aoq1 t428.length coq1 : Value).ownBlock ∧ some k_ ≠ (.slice Aoq2 t433.length coq2 : Value).ownBlock ∧ some k_ ≠ (.slice Aoq3 t436.length coq3 : Value).ownBlock) (Kd.R_N (Kd.R_bound ho0)) (fun k_ hk_ => ⟨(Kd.fresh' (Kd.N_lt (by exact nA HO430.out)) k_ hk_.2.1), (Kd.fresh' (Kd.N_lt (by exact nA HO435.out)) k_ hk_.2.1), (Kd.fresh' (Kd.R_lt (by exact rA HO439.out)) k_ hk_.2.1)⟩)) (below_size (bl HB))); replace HO430 := aS (Kd.N_elder' (by exact nA HO430.out) (Kd.R_base ho0) hb); replace HO435 := aS (Kd.N_elder' (by exact nA HO435.out) (Kd.R_base ho0) hb); replace HO439 := aS (Kd.R_below (by exact rA HO439.out) hb); replace HB := aS (bs_ (bl HB) hb); clear hb ho0) | (go_at_call 38; (with_reducible refine (fluxionlaw29_square.calls  t445 _ A10.out).mono ?_); rintro e wq6 ⟨v446, rfl, ho0, hb⟩; have HO447 := aS (Kd.N_lower (Kd.N_mono (ok' := fun k_ => some k_ ≠ (.slice Aoq1 t428.length coq1 : Value).ownBlock ∧ some k_ ≠ (.slice Aoq2 t433.length coq2 : Value).ownBlock ∧ some k_ ≠ (.slice Aoq3 t436.length coq3 : Value).ownBlock ∧ some k_ ≠ (v443 : Value).ownBlock) ho0 (fun k_ hk_ => ⟨(Kd.fresh' (Kd.N_lt (by exact nA HO430.out)) k_ hk_), (Kd.fresh' (Kd.N_lt (by exact nA HO435.out)) k_ hk_), (Kd.fresh' (Kd.R_lt (by exact rA HO439.out)) k_ hk_), (Kd.fresh' (Kd.N_lt (by exact nA HO444.out)) k_ hk_)⟩)) (below_size (bl HB))); replace HO430 := aS (Kd.N_elder' (by exact nA HO430.out) (Kd.N_base ho0) hb); replace HO435 := aS (Kd.N_elder' (by exact nA HO435.out) (Kd.N_base ho0) hb); replace HO439 := aS (Kd.R_below (by exact rA HO439.out) hb); replace HO444 := aS (Kd.N_elder' (by exact nA HO444.out) (Kd.N_base ho0) hb); replace HB := aS (bs_ (bl HB) hb); clear hb ho0; obtain ⟨Aoq4, coq4, eoq4⟩ := Kd.N_slice HO444.out; subst eoq4; obtain ⟨Aoq5, coq5, eoq5⟩ := Kd.N_slice HO447.out; subst eoq5) | (go_at_call 15; (with_reducible refine (fluxionref29_Same.calls _ _ t440 _ _ t445 true _ ?side1 ?side2 ?side3 ?side4 A11.out).mono ?_); (case side1 => repeat (first | exact (Kd.N_reads' HO444.out).2.2 | (with_reducible refine Kd.C_alloc ?_ _) | (with_reducible refine Kd.C_drewN ?_ _) | (with_reducible refine Kd.C_drew ?_))); (case side2 => exact (Kd.N_reads' HO444.out).2.1); (case side3 => repeat (first | exact (Kd.N_reads' HO447.out).2.2 | (with_reducible refine Kd.C_alloc ?_ _) | (with_reducible refine Kd.C_drewN ?_ _) | (with_reducible refine Kd.C_drew ?_))); (case side4 => exact (Kd.N_reads' HO447.out).2.1); rintro e wq7 ⟨rfl, hb⟩; replace HO430 := aS (Kd.N_below (by exact nA HO430.out) hb); replace HO435 := aS (Kd.N_below (by exact nA HO435.out) hb); replace HO439 := aS (Kd.R_below (by exact rA HO439.out) hb); replace HO444 := aS (Kd.N_below (by exact nA HO444.out) hb); replace HO447 := aS (Kd.N_below (by exact nA HO447.out) hb); replace HB := aS (bs_ (bl HB) hb); clear hb) | (go_at_call 38; (with_reducible refine (fluxionlaw29_square.calls  t449 _ A13.out).mono ?_); rintro e wq8 ⟨v450, rfl, ho0, hb⟩; have HO451 := aS (Kd.N_lower (Kd.N_mono (ok' := fun k_ => some k_ ≠ (.slice Aoq1 t428.length coq1 : Value).ownBlock ∧ some k_ ≠ (.slice Aoq2 t433.length coq2 : Value).ownBlock ∧ some k_ ≠ (.slice Aoq3 t436.length coq3 : Value).ownBlock ∧ some k_ ≠ (.slice Aoq4 t440.length coq4 : Value).ownBlock ∧ some k_ ≠ (.slice Aoq5 t445.length coq5 : Value).ownBlock) ho0 (fun k_ hk_ => ⟨(Kd.fresh' (Kd.N_lt (by exact nA HO430.out)) k_ hk_), (Kd.fresh' (Kd.N_lt (by exact nA HO435.out)) k_ hk_), (Kd.fresh' (Kd.R_lt (by exact rA HO439.out)) k_ hk_), (Kd.fresh' (Kd.N_lt (by exact nA HO444.out)) k_ hk_), (Kd.fresh' (Kd.N_lt (by exact nA HO447.out)) k_ hk_)⟩)) (below_size (bl HB))); replace HO430 := aS (Kd.N_elder' (by exact nA HO430.out) (Kd.N_base ho0) hb); replace HO435 := aS (Kd.N_elder' (by exact nA HO435.out) (Kd.N_base ho0) hb); replace HO439 := aS (Kd.R_below (by exact rA HO439.out) hb); replace HO444 := aS (Kd.N_elder' (by exact nA HO444.out) (Kd.N_base ho0) hb); replace HO447 := aS (Kd.N_elder' (by exact nA HO447.out) (Kd.N_base ho0) hb); replace HB := aS (bs_ (bl HB) hb); clear hb ho0; obtain ⟨Aoq6, coq6, eoq6⟩ := Kd.N_slice HO451.out; subst eoq6) | (go_at_call 13; (with_reducible refine (code_IsCode.calls k _ _ t449 t452 _ ?side1 ?side2 ?side3 A14.out).mono ?_); (case side1 => exact GW.below HG.out (bl HB)); (case side2 => repeat (first | exact (Kd.N_reads' HO451.out).2.2 | (with_reducible refine Kd.C_alloc ?_ _) | (with_reducible refine Kd.C_drewN ?_ _) | (with_reducible refine Kd.C_drew ?_))); (case side3 => exact (Kd.N_reads' HO451.out).2.1); rintro e wq9 ⟨rfl, hb⟩; replace HO430 := aS (Kd.N_below (by exact nA HO430.out) hb); replace HO435 := aS (Kd.N_below (by exact nA HO435.out) hb); replace HO439 := aS (Kd.R_below (by exact rA HO439.out) hb); replace HO444 := aS (Kd.N_below (by exact nA HO444.out) hb); replace HO447 := aS (Kd.N_below (by exact nA HO447.out) hb); replace HO451 := aS (Kd.N_below (by exact nA HO451.out) hb); replace HB := aS (bs_ (bl HB) hb); clear hb) | (go_at_call 15; (with_reducible refine (fluxionref29_Same.calls _ _ t440 _ _ t445 false _ ?side1 ?side2 ?side3 ?side4 A11.out).mono ?_); (case side1 => repeat (first | exact (Kd.N_reads' HO444.out).2.2 | (with_reducible refine Kd.C_alloc ?_ _) | (with_reducible refine Kd.C_drewN ?_ _) | (with_reducible refine Kd.C_drew ?_))); (case side2 => exact (Kd.N_reads' HO444.out).2.1); (case side3 => repeat (first | exact (Kd.N_reads' HO447.out).2.2 | (with_reducible refine Kd.C_alloc ?_ _) | (with_reducible refine Kd.C_drewN ?_ _) | (with_reducible refine Kd.C_drew ?_))); (case side4 => exact (Kd.N_reads' HO447.out).2.1); rintro e wq7 ⟨rfl, hb⟩; replace HO430 := aS (Kd.N_below (by exact nA HO430.out) hb); replace HO435 := aS (Kd.N_below (by exact nA HO435.out) hb); replace HO439 := aS (Kd.R_below (by exact rA HO439.out) hb); replace HO444 := aS (Kd.N_below (by exact nA HO444.out) hb); replace HO447 := aS (Kd.N_below (by exact nA HO447.out) hb); replace HB := aS (bs_ (bl HB) hb); clear hb)))
 ·go_ret
  exact ⟨re, bl HB⟩
 ·go_ret
  exact ⟨re, bl HB⟩
 ·go_ret
  exact ⟨re, bl HB⟩
 ·go_ret
  exact ⟨re, bl HB⟩
 ·go_ret
  exact ⟨re, bl HB⟩
 ·go_ret
  exact ⟨re, bl HB⟩
def fluxionlaw29_CodeChecks.f (k : Nat) (l0 : List (S50)) : Option (Bool) := (fluxionlaw29_cut.f k l0).bind fun t453 => ((fluxionlaw29_cut.f k l0).bind fun t456 => ((code_Check.f k t456).bind fun bt459 => ((fluxionlaw29_cut.f k l0).bind fun t462 => ((code_IsCode.f k t462).bind fun t465 => ((fluxionref29_Check.f k t453).bind fun bt466 => (if bt459.1 = bt466.1 then (if bt459.2.1 = bt466.2.1 then (if bt459.2.2 = bt466.2.2 then (if (t465 == (bt466.2.2 == 0)) = true then ((fluxionref29_Same.f t453 t456).bind fun t469 => (if t469 = true then ((fluxionlaw29_alive.f k).bind fun t470 => (some t470)) else (some false))) else (some false)) else (some false)) else (some false)) else (some false)))))))
theorem fluxionlaw29_CodeChecks.calls (k : Nat) (A0 : Option Addr) (c0 : Nat) (l0 : List (S50)) (r : Bool) (w : World) (hG : GW w) (hr0 : Kd.C k50 w A0 l0.length l0) (hc0 : l0.length ≤ c0) (h : fluxionlaw29_CodeChecks.f k l0 = some r) :
 Calls Tryz.prog 3 #[.slice A0 l0.length c0] w fun e w' => e = .returned (.bool r) ∧ Below w.heap.size w w' := by
 have HR0 := aS hr0
 have HC0 := aS hc0
 clear hr0 hc0
 have HG := aS hG
 clear hG
 have HB := aS (Below.refl w.heap.size w)
 have H := h
 unfold fluxionlaw29_CodeChecks.f at H
 clear h
 replace H := bS H
 obtain ⟨t453, A20, H⟩ := H
 (try dsimp only at H)
 have A2 := aS A20
 clear A20
 replace H := bS H
 obtain ⟨t456, A30, H⟩ := H
 (try dsimp only at H)
 have A3 := aS A30
 clear A30
 replace H := bS H
 obtain ⟨⟨t459, t460, t461⟩, A40, H⟩ := H
 (try dsimp only at H)
 have A4 := aS A40
 clear A40
 replace H := bS H
 obtain ⟨t462, A50, H⟩ := H
 (try dsimp only at H)
 have A5 := aS A50
 clear A50
 replace H := bS H
 obtain ⟨t465, A60, H⟩ := H
 (try dsimp only at H)
 have A6 := aS A60
 clear A60
 replace H := bS H
 obtain ⟨⟨t466, t467, t468⟩, A70, H⟩ := H
 (try dsimp only at H)
 have A7 := aS A70
 clear A70
 by_cases c8 : t459 = t466
 focus
  rw [if_pos c8] at H
  have c8b0 := bT c8
  have c8b1 := nF c8
  clear c8
  by_cases c9 : t460 = t467
  focus
   rw [if_pos c9] at H
   have c9b0 := bT c9
   have c9b1 := nF c9
   clear c9
   by_cases c10 : t461 = t468
   focus
    rw [if_pos c10] at H
    have c10b0 := bT c10
    have c10b1 := nF c10
    clear c10
    by_cases c11 : (t465 == (t468 == 0)) = true
    focus
     rw [if_pos c11] at H
     have c11b0 : (t465 == (t468 == 0)) = true := c11
     (try (have c11b1 : decide (t465 = (t468 == 0)) = true := by simpa using c11))
     (try (have c11b2 : (t465 == (t468 == 0)) = true := by simpa using c11))
     clear c11
     replace H := bS H
     obtain ⟨t469, A120, H⟩ := H
     (try dsimp only at H)
     have A12 := aS A120
     clear A120
     by_cases c13 : t469 = true
     focus
      subst c13
      rw [if_pos rfl] at H
      replace H := bS H
      obtain ⟨t470, A140, H⟩ := H
      (try dsimp only at H)
      have A14 := aS A140
      clear A140
      obtain rfl := sI H
     rotate_left 1
     focus
      replace c13 := Bool.eq_false_iff.mpr c13
      subst c13
      rw [if_neg iN] at H
      obtain rfl := sI H
     rotate_left 1
    rotate_left 2
    focus
     rw [if_neg c11] at H
     have c11b0 : (t465 == (t468 == 0)) = false := by simpa using c11
     (try (have c11b1 : decide (t465 = (t468 == 0)) = false := by simpa using c11))
     (try (have c11b2 : (t465 == (t468 == 0)) = false := by simpa using c11))
     (try (have c11b3 : ¬ (t465 = (t468 == 0)) := by simpa using c11))
     clear c11
     obtain rfl := sI H
    rotate_left 1
   rotate_left 3
   focus
    rw [if_neg c10] at H
    have c10b0 := bF c10
    have c10b1 := nT c10
    obtain rfl := sI H
   rotate_left 1
  rotate_left 4
  focus
   rw [if_neg c9] at H
   have c9b0 := bF c9
   have c9b1 := nT c9
   obtain rfl := sI H
  rotate_left 1
 rotate_left 5
 focus
  rw [if_neg c8] at H
  have c8b0 := bF c8
  have c8b1 := nT c8
  obtain rfl := sI H
 rotate_left 1
 all_goals (go_enter Tryz.func3, Tryz.ntmps3)
 all_goals (go_wp2_with (first | ((with_reducible refine gate_callee (f := 11) rfl ?_); refine gl 13 Tryz.func11 #[.slice A0 l0.length c0] ?_; (with_reducible refine (fluxionlaw29_cut.calls k _ _ l0 t453 _ ?side1 ?side2 A2.out).mono ?_); (case side1 => repeat (first | exact HR0.out | (with_reducible refine Kd.C_alloc ?_ _) | (with_reducible refine Kd.C_drewN ?_ _) | (with_reducible refine Kd.C_drew ?_))); (case side2 => exact HC0.out); rintro e wq1 ⟨v454, rfl, ho0, hb⟩; refine ⟨_, rfl, ?_⟩; have HO455 := aS (Kd.R_lower ho0 (below_size (bl HB))); replace HB := aS (bs_ (bl HB) hb); clear hb ho0) | ((with_reducible refine gate_callee (f := 11) rfl ?_); refine gl 15 Tryz.func11 #[.slice A0 l0.length c0] ?_; (with_reducible refine (fluxionlaw29_cut.calls k _ _ l0 t456 _ ?side1 ?side2 A3.out).mono ?_); (case side1 => exact cb HR0 HB); (case side2 => exact HC0.out); rintro e wq2 ⟨v457, rfl, ho0, hb⟩; refine ⟨_, rfl, ?_⟩; have HO458 := aS (Kd.R_lower (Kd.R_new' ho0 (Kd.R_lt (by exact rA HO455.out))) (below_size (bl HB))); replace HO455 := aS (Kd.R_elder' (by exact rA HO455.out) (Kd.R_base ho0) hb); replace HB := aS (bs_ (bl HB) hb); clear hb ho0; obtain ⟨Aoq1, coq1, eoq1⟩ := Kd.R_slice HO458.out; subst eoq1) | ((with_reducible refine gate_callee (f := 12) rfl ?_); refine gl 18 Tryz.func12 #[.slice Aoq1 t456.length coq1] ?_; (with_reducible refine (code_Check.calls k _ _ t456 t459 t460 t461 _ ?side1 ?side2 ?side3 A4.out).mono ?_); (case side1 => exact GW.below HG.out (bl HB)); (case side2 => repeat (first | exact (Kd.R_reads' HO458.out).2.2 | (with_reducible refine Kd.C_alloc ?_ _) | (with_reducible refine Kd.C_drewN ?_ _) | (with_reducible refine Kd.C_drew ?_))); (case side3 => exact (Kd.R_reads' HO458.out).2.1); rintro e wq3 ⟨rfl, hb⟩; refine ⟨_, rfl, ?_⟩; replace HO455 := aS (Kd.R_below (by exact rA HO455.out) hb); replace HO458 := aS (Kd.R_below (by exact rA HO458.out) hb); replace HB := aS (bs_ (bl HB) hb); clear hb) | ((with_reducible refine gate_callee (f := 11) rfl ?_); refine gl 23 Tryz.func11 #[.slice A0 l0.length c0] ?_; (with_reducible refine (fluxionlaw29_cut.calls k _ _ l0 t462 _ ?side1 ?side2 A5.out).mono ?_); (case side1 => exact cb HR0 HB); (case side2 => exact HC0.out); rintro e wq4 ⟨v463, rfl, ho0, hb⟩; refine ⟨_, rfl, ?_⟩; have HO464 := aS (Kd.R_lower (Kd.R_new' (Kd.R_new' ho0 (Kd.R_lt (by exact rA HO455.out))) (Kd.R_lt (by exact rA HO458.out))) (below_size (bl HB))); replace HO455 := aS (Kd.R_elder' (by exact rA HO455.out) (Kd.R_base ho0) hb); replace HO458 := aS (Kd.R_elder' (by exact rA HO458.out) (Kd.R_base ho0) hb); replace HB := aS (bs_ (bl HB) hb); clear hb ho0; obtain ⟨Aoq2, coq2, eoq2⟩ := Kd.R_slice HO464.out; subst eoq2) | ((with_reducible refine gate_callee (f := 13) rfl ?_); refine gl 24 Tryz.func13 #[.slice Aoq2 t462.length coq2] ?_; (with_reducible refine (code_IsCode.calls k _ _ t462 t465 _ ?side1 ?side2 ?side3 A6.out).mono ?_); (case side1 => exact GW.below HG.out (bl HB)); (case side2 => repeat (first | exact (Kd.R_reads' HO464.out).2.2 | (with_reducible refine Kd.C_alloc ?_ _) | (with_reducible refine Kd.C_drewN ?_ _) | (with_reducible refine Kd.C_drew ?_))); (case side3 => exact (Kd.R_reads' HO464.out).2.1); rintro e wq5 ⟨rfl, hb⟩; refine ⟨_, rfl, ?_⟩; replace HO455 := aS (Kd.R_below (by exact rA HO455.out) hb); replace HO458 := aS (Kd.R_below (by exact rA HO458.out) hb); replace HO464 := aS (Kd.R_below (by exact rA HO464.out) hb); replace HB := aS (bs_ (bl HB) hb); clear hb; obtain ⟨Aoq3, coq3, eoq3⟩ := Kd.R_slice HO455.out; subst eoq3) | ((with_reducible refine gate_callee (f := 14) rfl ?_); refine gl 27 Tryz.func14 #[.slice Aoq3 t453.length coq3] ?_; (with_reducible refine (fluxionref29_Check.calls k _ _ t453 t466 t467 t468 _ ?side1 ?side2 A7.out).mono ?_); (case side1 => repeat (first | exact (Kd.R_reads' HO455.out).2.2 | (with_reducible refine Kd.C_alloc ?_ _) | (with_reducible refine Kd.C_drewN ?_ _) | (with_reducible refine Kd.C_drew ?_))); (case side2 => exact (Kd.R_reads' HO455.out).2.1); rintro e wq6 ⟨rfl, hb⟩; refine ⟨_, rfl, ?_⟩; replace HO455 := aS (Kd.R_below (by exact rA HO455.out) hb); replace HO458 := aS (Kd.R_below (by exact rA HO458.out) hb); replace HO464 := aS (Kd.R_below (by exact rA HO464.out) hb); replace HB := aS (bs_ (bl HB) hb); clear hb) | (go_at_call 15; (with_reducible refine (fluxionref29_Same.calls _ _ t453 _ _ t456 true _ ?side1 ?side2 ?side3 ?side4 A12.out).mono ?_); (case side1 => repeat (first | exact (Kd.R_reads' HO455.out).2.2 | (with_reducible refine Kd.C_alloc ?_ _) | (with_reducible refine Kd.C_drewN ?_ _) | (with_reducible refine Kd.C_drew ?_))); (case side2 => exact (Kd.R_reads' HO455.out).2.1); (case side3 => repeat (first | exact (Kd.R_reads' HO458.out).2.2 | (with_reducible refine Kd.C_alloc ?_ _) | (with_reducible refine Kd.C_drewN ?_ _) | (with_reducible refine Kd.C_drew ?_))); (case side4 => exact (Kd.R_reads' HO458.out).2.1); rintro e wq7 ⟨rfl, hb⟩; replace HO455 := aS (Kd.R_below (by exact rA HO455.out) hb); replace HO458 := aS (Kd.R_below (by exact rA HO458.out) hb); replace HO464 := aS (Kd.R_below (by exact rA HO464.out) hb); replace HB := aS (bs_ (bl HB) hb); clear hb) | (go_at_call 16; (with_reducible refine (fluxionlaw29_alive.calls k  t470 _ ?side1 A14.out).mono ?_); (case side1 => exact GW.below HG.out (bl HB)); rintro e wq8 ⟨rfl, hb⟩; replace HO455 := aS (Kd.R_below (by exact rA HO455.out) hb); replace HO458 := aS (Kd.R_below (by exact rA HO458.out) hb); replace HO464 := aS (Kd.R_below (by exact rA HO464.out) hb); replace HB := aS (bs_ (bl HB) hb); clear hb) | (go_at_call 15; (with_reducible refine (fluxionref29_Same.calls _ _ t453 _ _ t456 false _ ?side1 ?side2 ?side3 ?side4 A12.out).mono ?_); (case side1 => repeat (first | exact (Kd.R_reads' HO455.out).2.2 | (with_reducible refine Kd.C_alloc ?_ _) | (with_reducible refine Kd.C_drewN ?_ _) | (with_reducible refine Kd.C_drew ?_))); (case side2 => exact (Kd.R_reads' HO455.out).2.1); (case side3 => repeat (first | exact (Kd.R_reads' HO458.out).2.2 | (with_reducible refine Kd.C_alloc ?_ _) | (with_reducible refine Kd.C_drewN ?_ _) | (with_reducible refine Kd.C_drew ?_))); (case side4 => exact (Kd.R_reads' HO458.out).2.1); rintro e wq7 ⟨rfl, hb⟩; replace HO455 := aS (Kd.R_below (by exact rA HO455.out) hb); replace HO458 := aS (Kd.R_below (by exact rA HO458.out) hb); replace HO464 := aS (Kd.R_below (by exact rA HO464.out) hb); replace HB := aS (bs_ (bl HB) hb); clear hb)))
 ·go_ret
  exact ⟨re, bl HB⟩
 ·go_ret
  exact ⟨re, bl HB⟩
 ·go_ret
  exact ⟨re, bl HB⟩
 ·go_ret
  exact ⟨re, bl HB⟩
 ·go_ret
  exact ⟨re, bl HB⟩
 ·go_ret
  exact ⟨re, bl HB⟩
end Go.Proofs.YtbkknoipgmlcmaaGreatDoor.P

