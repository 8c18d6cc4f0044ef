import Derived.Test.YtbkknoipgmlcmaaGreatDoorQGM5
import Derived.Test.YtbkknoipgmlcmaaGreatDoorQGM21
set_option linter.all false
set_option maxHeartbeats 8000000
set_option maxRecDepth 100000
namespace Go.Proofs.QP
open Go.RowKit Go.Proofs.PW Go.Proofs.PL Go.Proofs.PM Go.Proofs.FX
section
section
attribute [local go_sem] yd zV
attribute [local go_sem] xf xg xD xE yI yJ xl xm
def yk.f  : Option ((List (S50))) := (some (([(⟨1, ([] : List Int)⟩ : xx)] : List (xx)) : List (xx))).bind fun y419 => (some (([(⟨(⟨#[102]⟩ : ByteArray), y419, y419, 2, (([(⟨8, 1, 0, 0, (⟨0, false, ([] : List Int), ([] : List Int)⟩ : S61)⟩ : S63), (⟨26, 1, 0, 0, (⟨0, false, ([] : List Int), ([] : List Int)⟩ : S61)⟩ : S63)] : List (S63)))⟩ : S50)] : List (S50))))
theorem yk.calls  (r : List (S50)) (w : World) (h : yk.f  = some r) :
 Calls Tryz.prog 38 #[] w fun e w' => ∃ v0_ : Value, e = .returned (v0_) ∧ Kd.N k50 50 w' w.heap.size (fun k_ => (w.heap.size ≤ k_)) v0_ r ∧ Below w.heap.size w w' := by
 have hu115 := Tryz.underlying115
 have hu63 := Tryz.underlying63
 have hu50 := Tryz.underlying50
 have HB := hR w
 have H := h
 unfold yk.f at H
 clear h
 replace H := yB H
 obtain ⟨y419, Ny419, H⟩ := H
 obtain ⟨y422, Ny422⟩ := yE (([(⟨8, 1, 0, 0, (⟨0, false, ([] : List Int), ([] : List Int)⟩ : S61)⟩ : S63), (⟨26, 1, 0, 0, (⟨0, false, ([] : List Int), ([] : List Int)⟩ : S61)⟩ : S63)] : List (S63)) : List (S63))
 rw [← Ny422.out] at H
 replace H := yS H
 obtain ⟨y425, Ny425, H⟩ := H
 obtain rfl := sI H
 go_enter Tryz.func38, Tryz.ntmps38
 go_wp2_with (first | ((with_reducible refine zq (N := 3) rfl ?_); refine Kd.z3W xC _ 115 ?hg (N' := 3) ?hd (xs := ([(⟨1, ([] : List Int)⟩ : xx)] : List (xx))) (inner := [.int .i64 1, .slice none 0 0]) (ok := (fun k_ => (w.heap.size ≤ k_))) (okp := (fun k_ => (w.heap.size ≤ k_))) ?hr ?hp (fun _ hk => hk) ((show ∀ k_, w.heap.size ≤ k_ → (fun k_ => (w.heap.size ≤ k_)) k_ from fun k_ hk => (Nat.le_trans (zg (bl HB)) hk)) _ (Nat.le_refl _)) (Below.refl _ _) (Nat.le_refl _) (by simp) ?_; (case hd => rfl); (case hg => rfl); (case hr => first | (go_simp; done) | (go_simp; rfl)); (case hp => exact (zQ.c2 (show Kd.FK xC _ _ (⟨1, ([] : List Int)⟩ : xx) [.int .i64 1, .slice none 0 0] from (zap _ _ (⟨1, ([] : List Int)⟩ : xx) (Nat.le_refl _) (Kd.z5r _ _ _))) (zQ.none _ _))); intro v420 w1 ho2 hb hg_ hnew_; clear hg_ hnew_; (first | rw [← Ny419.out] at ho2 | (simp only [Int.reduceToNat] at ho2; rw [← Ny419.out] at ho2)); have HO421 := aS (Kd.z0H ho2 (zg (bl HB))); replace HB := hB_ HB hb; clear hb ho2) | ((with_reducible refine zq (N := 8) rfl ?_); refine Kd.z3W k63 _ 63 ?hg (N' := 8) ?hd (xs := ([(⟨8, 1, 0, 0, (⟨0, false, ([] : List Int), ([] : List Int)⟩ : S61)⟩ : S63), (⟨26, 1, 0, 0, (⟨0, false, ([] : List Int), ([] : List Int)⟩ : S61)⟩ : S63)] : List (S63))) (inner := [.int .i64 8, .int .i64 1, .int .i64 0, .int .i64 0, .int .i64 0, .bool false, .slice none 0 0, .slice none 0 0, .int .i64 26, .int .i64 1, .int .i64 0, .int .i64 0, .int .i64 0, .bool false, .slice none 0 0, .slice none 0 0]) (ok := (fun k_ => (w.heap.size ≤ k_) ∧ some k_ ≠ (v420 : Value).ownBlock)) (okp := (fun k_ => (w.heap.size ≤ k_) ∧ some k_ ≠ (v420 : Value).ownBlock)) ?hr ?hp (fun _ hk => hk) ((show ∀ k_, w1.heap.size ≤ k_ → (fun k_ => (w.heap.size ≤ k_) ∧ some k_ ≠ (v420 : Value).ownBlock) k_ from fun k_ hk => ⟨(Nat.le_trans (zg (bl HB)) hk), Kd.z0F (Kd.z4e (by exact nA HO421.out)) k_ hk⟩) _ (Nat.le_refl _)) (Below.refl _ _) (Nat.le_refl _) (by simp) ?_; (case hd => rfl); (case hg => rfl); (case hr => first | (go_simp; done) | (go_simp; rfl)); (case hp => exact (zQ.c8 (show Kd.FK k63 _ _ (⟨8, 1, 0, 0, (⟨0, false, ([] : List Int), ([] : List Int)⟩ : S61)⟩ : S63) [.int .i64 8, .int .i64 1, .int .i64 0, .int .i64 0, .int .i64 0, .bool false, .slice none 0 0, .slice none 0 0] from (z8C _ _ (⟨8, 1, 0, 0, (⟨0, false, ([] : List Int), ([] : List Int)⟩ : S61)⟩ : S63) (Nat.le_refl _) (Kd.z5r _ _ _) (Nat.le_refl _) (Kd.z5r _ _ _))) (zQ.c8 (show Kd.FK k63 _ _ (⟨26, 1, 0, 0, (⟨0, false, ([] : List Int), ([] : List Int)⟩ : S61)⟩ : S63) [.int .i64 26, .int .i64 1, .int .i64 0, .int .i64 0, .int .i64 0, .bool false, .slice none 0 0, .slice none 0 0] from (z8C _ _ (⟨26, 1, 0, 0, (⟨0, false, ([] : List Int), ([] : List Int)⟩ : S61)⟩ : S63) (Nat.le_refl _) (Kd.z5r _ _ _) (Nat.le_refl _) (Kd.z5r _ _ _))) (zQ.none _ _)))); intro v423 w3 ho4 hb hg_ hnew_; clear hg_ hnew_; (first | rw [← Ny422.out] at ho4 | (simp only [Int.reduceToNat] at ho4; rw [← Ny422.out] at ho4)); replace HO421 := aS (Kd.z08 (by exact nA HO421.out) (Kd.z0i ho4) hb); have HO424 := aS (Kd.z0H ho4 (zg (bl HB))); replace HB := hB_ HB hb; clear hb ho4; obtain ⟨Ao5, co5, eo5⟩ := Kd.z0x HO424.out; subst eo5; obtain ⟨Ao6, co6, eo6⟩ := Kd.z0x HO421.out; subst eo6) | ((with_reducible refine zq (N := 10) rfl ?_); refine Kd.z3W k50 _ 50 ?hg (N' := 10) ?hd (xs := ([(⟨(⟨#[102]⟩ : ByteArray), y419, y419, 2, y422⟩ : S50)] : List (S50))) (inner := [.string (⟨#[102]⟩ : ByteArray), .slice Ao6 y419.length co6, .slice Ao6 y419.length co6, .int .i64 2, .slice Ao5 y422.length co5]) (ok := (fun k_ => (w.heap.size ≤ k_))) (okp := (fun k_ => (w.heap.size ≤ k_))) ?hr ?hp (fun _ hk => hk) ((show ∀ k_, w3.heap.size ≤ k_ → (fun k_ => (w.heap.size ≤ k_)) k_ from fun k_ hk => (Nat.le_trans (zg (bl HB)) hk)) _ (Nat.le_refl _)) (Below.refl _ _) (Nat.le_refl _) (by simp) ?_; (case hd => rfl); (case hg => rfl); (case hr => first | (go_simp; done) | (go_simp; rfl)); (case hp => exact (zQ.c5 (show Kd.FK k50 _ _ (⟨(⟨#[102]⟩ : ByteArray), y419, y419, 2, y422⟩ : S50) [.string (⟨#[102]⟩ : ByteArray), .slice Ao6 y419.length co6, .slice Ao6 y419.length co6, .int .i64 2, .slice Ao5 y422.length co5] from (zbM _ _ (⟨(⟨#[102]⟩ : ByteArray), y419, y419, 2, y422⟩ : S50) (Kd.yD (Kd.z1n (ok' := (fun k_ => (w.heap.size ≤ k_))) (HO421.out) (fun k_ hk => hk.1))).2.1 (Kd.N_F (Kd.z1n (ok' := (fun k_ => (w.heap.size ≤ k_))) (HO421.out) (fun k_ hk => hk.1))) (Kd.yD (Kd.z1n (ok' := (fun k_ => (w.heap.size ≤ k_))) (HO421.out) (fun k_ hk => hk.1))).2.1 (Kd.N_F (Kd.z1n (ok' := (fun k_ => (w.heap.size ≤ k_))) (HO421.out) (fun k_ hk => hk.1))) (Kd.yD (Kd.z1n (ok' := (fun k_ => (w.heap.size ≤ k_))) (HO424.out) (fun k_ hk => hk.1))).2.1 (Kd.N_F (Kd.z1n (ok' := (fun k_ => (w.heap.size ≤ k_))) (HO424.out) (fun k_ hk => hk.1))))) (zQ.none _ _))); intro v426 w7 ho8 hb hg_ hnew_; clear hg_ hnew_; (first | rw [← Ny425.out] at ho8 | (simp only [Int.reduceToNat] at ho8; rw [← Ny425.out] at ho8)); have HO427 := aS (Kd.z0H ho8 (zg (bl HB))); replace HB := hB_ HB hb; clear HO421 HO424; clear hb ho8))
 go_ret
 exact ⟨_, re, by exact nA HO427.out, bl HB⟩
def zv.f (k : Nat)  : Option (Bool) := (yk.f).bind fun t428 => ((z1S.f t428).bind fun bt431 => ((yk.f).bind fun t433 => ((z1z.f t433).bind fun bt436 => ((z1A.f bt436.1).bind fun bt440 => (if bt431.2 = 0 then (if bt431.1.toList = ([114, 111, 117, 116, 105, 110, 101, 32, 102, 40, 114, 101, 97, 108, 41, 32, 40, 114, 101, 97, 108, 41, 32, 50, 10, 32, 32, 109, 117, 108, 32, 49, 32, 48, 32, 48, 10, 32, 32, 114, 101, 116, 117, 114, 110, 32, 49, 10] : List UInt8) then (if bt436.2 = 0 then (if bt440.2.2 = 0 then ((yk.f).bind fun t445 => ((xQ.f bt440.1 t445).bind fun t448 => (if t448 = true then ((yk.f).bind fun t449 => ((yF.f k t449).bind fun t452 => (some t452))) else (some false)))) else (some false)) else (some false)) else (some false)) else (some false))))))
theorem zv.mono : ∀ k, LeO (zv.f k ) (zv.f (k + 1) ) := by
 intro  k
 unfold zv.f
 repeat' first
  | (with_reducible exact yF.mono _ _)
  | (with_reducible exact LeO.refl _)
  | (with_reducible exact LeO.none _)
  | (with_reducible refine LeO.ite ?_ ?_)
  | (with_reducible refine LeO.bind ?_ (fun _ => ?_))
  | exact yF.mono _ _
  | exact LeO.none _
  | refine LeO.ite ?_ ?_
  | refine LeO.bind ?_ (fun _ => ?_)
theorem zv.calls (k : Nat)  (r : Bool) (w : World) (hG : GW w) (h : zv.f k  = some r) :
 Calls Tryz.prog 16 #[] w fun e w' => e = .returned (.bool r) ∧ Below w.heap.size w w' := by
 have HG := aS hG
 clear hG
 have HB := hR w
 have H := h
 unfold zv.f at H
 clear h
 replace H := bA H
 obtain ⟨t428, A1, H⟩ := H
 replace H := bS H
 obtain ⟨⟨t431, t432⟩, A20, H⟩ := H
 (try dsimp only at H)
 have A2 := aS A20
 clear A20
 replace H := bA H
 obtain ⟨t433, A3, H⟩ := H
 replace H := bS H
 obtain ⟨⟨t436, t437⟩, A40, H⟩ := H
 (try dsimp only at H)
 have A4 := aS A40
 clear A40
 replace H := bS H
 obtain ⟨⟨t440, t441, t442⟩, A50, H⟩ := H
 (try dsimp only at H)
 have A5 := aS A50
 clear A50
 by_cases c6 : t432 = 0
 focus
  rw [if_pos c6] at H
  have c6b0 := bT c6
  have c6b1 := nF c6
  clear c6
  by_cases c7 : t431.toList = ([114, 111, 117, 116, 105, 110, 101, 32, 102, 40, 114, 101, 97, 108, 41, 32, 40, 114, 101, 97, 108, 41, 32, 50, 10, 32, 32, 109, 117, 108, 32, 49, 32, 48, 32, 48, 10, 32, 32, 114, 101, 116, 117, 114, 110, 32, 49, 10] : List UInt8)
  focus
   rw [if_pos c7] at H
   have c7b0 := bT c7
   have c7b1 := nF c7
   clear c7
   by_cases c8 : t437 = 0
   focus
    rw [if_pos c8] at H
    have c8b0 := bT c8
    have c8b1 := nF c8
    clear c8
    by_cases c9 : t442 = 0
    focus
     rw [if_pos c9] at H
     have c9b0 := bT c9
     have c9b1 := nF c9
     clear c9
     replace H := bA H
     obtain ⟨t445, A10, H⟩ := H
     replace H := bA H
     obtain ⟨t448, A11, H⟩ := H
     by_cases c12 : t448 = true
     focus
      subst c12
      rw [if_pos rfl] at H
      replace H := bA H
      obtain ⟨t449, A13, H⟩ := H
      replace H := bA H
      obtain ⟨t452, A14, H⟩ := H
     rotate_left 1
     focus
      replace c12 := Bool.eq_false_iff.mpr c12
      subst c12
      rw [if_neg iN] at H
     rotate_left 1
    rotate_left 2
    focus
     rw [if_neg c9] at H
     have c9b0 := bF c9
     have c9b1 := nT c9
    rotate_left 1
   rotate_left 3
   focus
    rw [if_neg c8] at H
    have c8b0 := bF c8
    have c8b1 := nT c8
   rotate_left 1
  rotate_left 4
  focus
   rw [if_neg c7] at H
   have c7b0 := bF c7
   have c7b1 := nT c7
  rotate_left 1
 rotate_left 5
 focus
  rw [if_neg c6] at H
  have c6b0 := bF c6
  have c6b1 := nT c6
 rotate_left 1
 all_goals (obtain rfl := sI H)
 all_goals (go_enter Tryz.func16, Tryz.ntmps16)
 all_goals (go_wp2_with (first | ((with_reducible refine zi (f := 38) rfl ?_); refine gl 9 Tryz.func38 #[] ?_; (with_reducible refine (yk.calls  t428 _ A1.out).mono ?_); rintro e wq1 ⟨v429, rfl, ho0, hb⟩; refine ⟨_, rfl, ?_⟩; have HO430 := aS (Kd.z0H (Kd.z1n (ok' := fun k_ => True) ho0 (fun k_ hk_ => trivial)) (zg (bl HB))); replace HB := hB_ HB hb; clear hb ho0; obtain ⟨Aoq1, coq1, eoq1⟩ := Kd.z0x HO430.out; subst eoq1) | ((with_reducible refine zi (f := 18) rfl ?_); refine gl 10 Tryz.func18 #[.slice Aoq1 t428.length coq1] ?_; (with_reducible refine (z1S.calls _ _ t428 t431 t432 _ ?side1 ?side2 ?side3 A2.out).mono ?_); (case side1 => exact GW.below HG.out (bl HB)); (case side2 => exact cA ((Kd.yD HO430.out).2.2)); (case side3 => exact (Kd.yD HO430.out).2.1); rintro e wq2 ⟨rfl, hb⟩; refine ⟨_, rfl, ?_⟩; replace HO430 := aS (Kd.z04 (by exact nA HO430.out) hb); replace HB := hB_ HB hb; clear hb) | ((with_reducible refine zi (f := 38) rfl ?_); refine gl 14 Tryz.func38 #[] ?_; (with_reducible refine (yk.calls  t433 _ A3.out).mono ?_); rintro e wq3 ⟨v434, rfl, ho0, hb⟩; refine ⟨_, rfl, ?_⟩; have HO435 := aS (Kd.z0H (Kd.z1n (ok' := fun k_ => some k_ ≠ (.slice Aoq1 t428.length coq1 : Value).ownBlock) ho0 (fun k_ hk_ => (Kd.z0F (Kd.z4e (by exact nA HO430.out)) k_ hk_))) (zg (bl HB))); replace HO430 := aS (Kd.z08 (by exact nA HO430.out) (Kd.z0i ho0) hb); replace HB := hB_ HB hb; clear hb ho0; obtain ⟨Aoq2, coq2, eoq2⟩ := Kd.z0x HO435.out; subst eoq2) | ((with_reducible refine zi (f := 17) rfl ?_); refine gl 15 Tryz.func17 #[.slice Aoq2 t433.length coq2] ?_; (with_reducible refine (z1z.calls _ _ t433 t436 t437 _ ?side1 ?side2 ?side3 A4.out).mono ?_); (case side1 => exact GW.below HG.out (bl HB)); (case side2 => exact cA ((Kd.yD HO435.out).2.2)); (case side3 => exact (Kd.yD HO435.out).2.1); rintro e wq4 ⟨v438, rfl, ho0, hb⟩; refine ⟨_, rfl, ?_⟩; replace HO430 := aS (Kd.z08 (by exact nA HO430.out) (Kd.yf ho0) hb); replace HO435 := aS (Kd.z08 (by exact nA HO435.out) (Kd.yf ho0) hb); have HO439 := aS (Kd.zL ho0 (zg (bl HB))); replace HB := hB_ HB hb; clear hb ho0; obtain ⟨Aoq3, coq3, eoq3⟩ := Kd.zB HO439.out; subst eoq3) | ((with_reducible refine zi (f := 22) rfl ?_); refine gl 20 Tryz.func22 #[.slice Aoq3 t436.length coq3] ?_; (with_reducible refine (z1A.calls _ _ t436 t440 t441 t442 _ ?side1 ?side2 ?side3 A5.out).mono ?_); (case side1 => exact GW.below HG.out (bl HB)); (case side2 => exact cA ((Kd.zz HO439.out).2.2)); (case side3 => exact (Kd.zz HO439.out).2.1); rintro e wq5 ⟨v443, rfl, ho0, hb⟩; refine ⟨_, rfl, ?_⟩; have HO444 := aS (Kd.z0H (Kd.z1n (ok' := fun k_ => some k_ ≠ (.slice Aoq1 t428.length coq1 : Value).ownBlock ∧ some k_ ≠ (.slice Aoq2 t433.length coq2 : Value).ownBlock ∧ some k_ ≠ (.slice Aoq3 t436.length coq3 : Value).ownBlock) (Kd.R_N (Kd.z09 ho0)) (fun k_ hk_ => ⟨(Kd.z0F (Kd.z4e (by exact nA HO430.out)) k_ hk_.2.1), (Kd.z0F (Kd.z4e (by exact nA HO435.out)) k_ hk_.2.1), (Kd.z0F (Kd.z27 (by exact rA HO439.out)) k_ hk_.2.1)⟩)) (zg (bl HB))); replace HO430 := aS (Kd.z08 (by exact nA HO430.out) (Kd.yf ho0) hb); replace HO435 := aS (Kd.z08 (by exact nA HO435.out) (Kd.yf ho0) hb); replace HO439 := aS (Kd.zU (by exact rA HO439.out) hb); replace HB := hB_ HB hb; clear hb ho0) | (go_at_call 38; (with_reducible refine (yk.calls  t445 _ A10.out).mono ?_); rintro e wq6 ⟨v446, rfl, ho0, hb⟩; have HO447 := aS (Kd.z0H (Kd.z1n (ok' := fun k_ => some k_ ≠ (.slice Aoq1 t428.length coq1 : Value).ownBlock ∧ some k_ ≠ (.slice Aoq2 t433.length coq2 : Value).ownBlock ∧ some k_ ≠ (.slice Aoq3 t436.length coq3 : Value).ownBlock ∧ some k_ ≠ (v443 : Value).ownBlock) ho0 (fun k_ hk_ => ⟨(Kd.z0F (Kd.z4e (by exact nA HO430.out)) k_ hk_), (Kd.z0F (Kd.z4e (by exact nA HO435.out)) k_ hk_), (Kd.z0F (Kd.z27 (by exact rA HO439.out)) k_ hk_), (Kd.z0F (Kd.z4e (by exact nA HO444.out)) k_ hk_)⟩)) (zg (bl HB))); replace HO430 := aS (Kd.z08 (by exact nA HO430.out) (Kd.z0i ho0) hb); replace HO435 := aS (Kd.z08 (by exact nA HO435.out) (Kd.z0i ho0) hb); replace HO439 := aS (Kd.zU (by exact rA HO439.out) hb); replace HO444 := aS (Kd.z08 (by exact nA HO444.out) (Kd.z0i ho0) hb); replace HB := hB_ HB hb; clear hb ho0; obtain ⟨Aoq4, coq4, eoq4⟩ := Kd.z0x HO444.out; subst eoq4; obtain ⟨Aoq5, coq5, eoq5⟩ := Kd.z0x HO447.out; subst eoq5) | (go_at_call 15; (with_reducible refine (xQ.calls _ _ t440 _ _ t445 true _ ?side1 ?side2 ?side3 ?side4 A11.out).mono ?_); (case side1 => exact cA ((Kd.yD HO444.out).2.2)); (case side2 => exact (Kd.yD HO444.out).2.1); (case side3 => exact cA ((Kd.yD HO447.out).2.2)); (case side4 => exact (Kd.yD HO447.out).2.1); rintro e wq7 ⟨rfl, hb⟩; replace HO430 := aS (Kd.z04 (by exact nA HO430.out) hb); replace HO435 := aS (Kd.z04 (by exact nA HO435.out) hb); replace HO439 := aS (Kd.zU (by exact rA HO439.out) hb); replace HO444 := aS (Kd.z04 (by exact nA HO444.out) hb); replace HO447 := aS (Kd.z04 (by exact nA HO447.out) hb); replace HB := hB_ HB hb; clear hb) | (go_at_call 38; (with_reducible refine (yk.calls  t449 _ A13.out).mono ?_); rintro e wq8 ⟨v450, rfl, ho0, hb⟩; have HO451 := aS (Kd.z0H (Kd.z1n (ok' := fun k_ => some k_ ≠ (.slice Aoq1 t428.length coq1 : Value).ownBlock ∧ some k_ ≠ (.slice Aoq2 t433.length coq2 : Value).ownBlock ∧ some k_ ≠ (.slice Aoq3 t436.length coq3 : Value).ownBlock ∧ some k_ ≠ (.slice Aoq4 t440.length coq4 : Value).ownBlock ∧ some k_ ≠ (.slice Aoq5 t445.length coq5 : Value).ownBlock) ho0 (fun k_ hk_ => ⟨(Kd.z0F (Kd.z4e (by exact nA HO430.out)) k_ hk_), (Kd.z0F (Kd.z4e (by exact nA HO435.out)) k_ hk_), (Kd.z0F (Kd.z27 (by exact rA HO439.out)) k_ hk_), (Kd.z0F (Kd.z4e (by exact nA HO444.out)) k_ hk_), (Kd.z0F (Kd.z4e (by exact nA HO447.out)) k_ hk_)⟩)) (zg (bl HB))); replace HO430 := aS (Kd.z08 (by exact nA HO430.out) (Kd.z0i ho0) hb); replace HO435 := aS (Kd.z08 (by exact nA HO435.out) (Kd.z0i ho0) hb); replace HO439 := aS (Kd.zU (by exact rA HO439.out) hb); replace HO444 := aS (Kd.z08 (by exact nA HO444.out) (Kd.z0i ho0) hb); replace HO447 := aS (Kd.z08 (by exact nA HO447.out) (Kd.z0i ho0) hb); replace HB := hB_ HB hb; clear hb ho0; obtain ⟨Aoq6, coq6, eoq6⟩ := Kd.z0x HO451.out; subst eoq6) | (go_at_call 13; (with_reducible refine (yF.calls k _ _ t449 t452 _ ?side1 ?side2 ?side3 A14.out).mono ?_); (case side1 => exact GW.below HG.out (bl HB)); (case side2 => exact cA ((Kd.yD HO451.out).2.2)); (case side3 => exact (Kd.yD HO451.out).2.1); rintro e wq9 ⟨rfl, hb⟩; replace HO430 := aS (Kd.z04 (by exact nA HO430.out) hb); replace HO435 := aS (Kd.z04 (by exact nA HO435.out) hb); replace HO439 := aS (Kd.zU (by exact rA HO439.out) hb); replace HO444 := aS (Kd.z04 (by exact nA HO444.out) hb); replace HO447 := aS (Kd.z04 (by exact nA HO447.out) hb); replace HO451 := aS (Kd.z04 (by exact nA HO451.out) hb); replace HB := hB_ HB hb; clear hb) | (go_at_call 15; (with_reducible refine (xQ.calls _ _ t440 _ _ t445 false _ ?side1 ?side2 ?side3 ?side4 A11.out).mono ?_); (case side1 => exact cA ((Kd.yD HO444.out).2.2)); (case side2 => exact (Kd.yD HO444.out).2.1); (case side3 => exact cA ((Kd.yD HO447.out).2.2)); (case side4 => exact (Kd.yD HO447.out).2.1); rintro e wq7 ⟨rfl, hb⟩; replace HO430 := aS (Kd.z04 (by exact nA HO430.out) hb); replace HO435 := aS (Kd.z04 (by exact nA HO435.out) hb); replace HO439 := aS (Kd.zU (by exact rA HO439.out) hb); replace HO444 := aS (Kd.z04 (by exact nA HO444.out) hb); replace HO447 := aS (Kd.z04 (by exact nA HO447.out) hb); replace HB := hB_ HB hb; clear hb)))
 ·go_ret
  exact ⟨re, bl HB⟩
 ·go_ret
  exact ⟨re, bl HB⟩
 ·go_ret
  exact ⟨re, bl HB⟩
 ·go_ret
  exact ⟨re, bl HB⟩
 ·go_ret
  exact ⟨re, bl HB⟩
 ·go_ret
  exact ⟨re, bl HB⟩
def yo.f (k : Nat) (l0 : List (S50)) : Option (Bool) := (zh.f k l0).bind fun bt471 => (some (bt471.2.2 == 0))
theorem yo.calls (k : Nat) (A0 : Option Addr) (c0 : Nat) (l0 : List (S50)) (r : Bool) (w : World) (hr0 : Kd.C k50 w A0 l0.length l0) (hc0 : l0.length ≤ c0) (h : yo.f k l0 = some r) :
 Calls Tryz.prog 19 #[.slice A0 l0.length c0] w fun e w' => e = .returned (.bool r) ∧ Below w.heap.size w w' := by
 have HR0 := aS hr0
 have HC0 := aS hc0
 clear hr0 hc0
 have HB := hR w
 have H := h
 unfold yo.f at H
 clear h
 replace H := bS H
 obtain ⟨⟨t471, t472, t473⟩, A20, H⟩ := H
 (try dsimp only at H)
 have A2 := aS A20
 clear A20
 obtain rfl := sI H
 go_enter Tryz.func19, Tryz.ntmps19
 go_wp2_with (first | ((with_reducible refine zi (f := 14) rfl ?_); refine gl 8 Tryz.func14 #[.slice A0 l0.length c0] ?_; (with_reducible refine (zh.calls k _ _ l0 t471 t472 t473 _ ?side1 ?side2 A2.out).mono ?_); (case side1 => exact cA HR0.out); (case side2 => exact HC0.out); rintro e w3 ⟨rfl, hb⟩; refine ⟨_, rfl, ?_⟩; replace HB := hB_ HB hb; clear hb))
 go_ret
 exact ⟨re, bl HB⟩
def z1e.f (a0_0 : Int) (a0_1 : Int) (a0_2 : Int) (a0_3 : Int) (a0_4 : Int) (a0_5 : Bool) (l0_6 : List Int) (l0_7 : List Int) (a1 : Int) : Option (List Int) := if a0_0 = 20 then (some (([a0_1] : List Int))) else (if a0_0 = 26 then (some ([] : List Int)) else (if a0_0 = 21 then (some (([wrap64 (a1 + 1), a0_1] : List Int))) else (if a0_0 = 22 then (some (([wrap64 (a1 + 1), a0_2, a0_3] : List Int))) else (some (([wrap64 (a1 + 1)] : List Int))))))
theorem z1e.calls (a0_0 : Int) (a0_1 : Int) (a0_2 : Int) (a0_3 : Int) (a0_4 : Int) (a0_5 : Bool) (A0_6 : Option Addr) (c0_6 : Nat) (l0_6 : List Int) (A0_7 : Option Addr) (c0_7 : Nat) (l0_7 : List Int) (a1 : Int) (r : List Int) (w : World) (hr0_6 : Kd.C (Kd.int .u32) w A0_6 l0_6.length l0_6) (hc0_6 : l0_6.length ≤ c0_6) (hr0_7 : Kd.C (Kd.int .u32) w A0_7 l0_7.length l0_7) (hc0_7 : l0_7.length ≤ c0_7) (h : z1e.f a0_0 a0_1 a0_2 a0_3 a0_4 a0_5 l0_6 l0_7 a1 = some r) :
 Calls Tryz.prog 76 #[.agg #[.int .i64 a0_0, .int .i64 a0_1, .int .i64 a0_2, .int .i64 a0_3, .int .i64 a0_4, .bool a0_5, .slice A0_6 l0_6.length c0_6, .slice A0_7 l0_7.length c0_7], .int .i64 a1] w fun e w' => ∃ v0_ : Value, e = .returned (v0_) ∧ Kd.R (Kd.int .i64) 3 w' w.heap.size (fun _ => True) v0_ r ∧ Below w.heap.size w w' := by
 have hu63 := Tryz.underlying63
 have HR0_6 := aS hr0_6
 have HC0_6 := aS hc0_6
 clear hr0_6 hc0_6
 have HR0_7 := aS hr0_7
 have HC0_7 := aS hc0_7
 clear hr0_7 hc0_7
 have HB := hR w
 have H := h
 unfold z1e.f at H
 clear h
 by_cases c3 : a0_0 = 20
 focus
  rw [if_pos c3] at H
  have c3b0 := bT c3
  have c3b1 := nF c3
  clear c3
  replace H := yS H
  obtain ⟨y475, Ny475, H⟩ := H
 rotate_left 1
 focus
  rw [if_neg c3] at H
  have c3b0 := bF c3
  have c3b1 := nT c3
  by_cases c8 : a0_0 = 26
  focus
   rw [if_pos c8] at H
   have c8b0 := bT c8
   have c8b1 := nF c8
   clear c8
  rotate_left 1
  focus
   rw [if_neg c8] at H
   have c8b0 := bF c8
   have c8b1 := nT c8
   by_cases c11 : a0_0 = 21
   focus
    rw [if_pos c11] at H
    have c11b0 := bT c11
    have c11b1 := nF c11
    clear c11
    replace H := yS H
    obtain ⟨y478, Ny478, H⟩ := H
   rotate_left 1
   focus
    rw [if_neg c11] at H
    have c11b0 := bF c11
    have c11b1 := nT c11
    by_cases c16 : a0_0 = 22
    focus
     rw [if_pos c16] at H
     have c16b0 := bT c16
     have c16b1 := nF c16
     clear c16
     replace H := yS H
     obtain ⟨y481, Ny481, H⟩ := H
    rotate_left 1
    focus
     rw [if_neg c16] at H
     have c16b0 := bF c16
     have c16b1 := nT c16
     replace H := yS H
     obtain ⟨y484, Ny484, H⟩ := H
    rotate_left 1
   rotate_left 2
  rotate_left 3
 rotate_left 4
 all_goals (obtain rfl := sI H)
 all_goals (go_enter Tryz.func76, Tryz.ntmps76)
 all_goals (go_wp2_with (first | ((with_reducible refine zq (N := 2) rfl ?_); refine bx (N := 2) (cs := #[.int .i64 a0_0, .int .i64 a0_1, .int .i64 a0_2, .int .i64 a0_3, .int .i64 a0_4, .bool a0_5, .slice A0_6 l0_6.length c0_6, .slice A0_7 l0_7.length c0_7]) (t := 63) ?_; intro gb474 hg wq1 hbox hb; have BK474 := aS (hbox); have GW474 := (gz hg HB : Aside0 (w.heap.size ≤ gb474)); have GE474 := (gz hg HB : Aside0 (w.heap.size ≤ gb474)); replace HB := hB_ HB hb; clear hb hbox hg; obtain ⟨_, _, _, _, _, _, _, _, _, _, _, _, _, _, _, _⟩ := cf8 BK474.out) | ((with_reducible refine zq (N := 11) rfl ?_); refine Kd.z1q (Kd.int .i64) _ 3 ?hg (N := 11) ?hd (xs := ([a0_1] : List Int)) (inner := [.int .i64 a0_1]) (ok := fun _ => True) (okp := fun _ => True) ?hr ?hp (fun _ hk => hk) trivial (Below.refl _ _) (Nat.le_refl _) (by simp) ?_; (case hd => rfl); (case hg => rfl); (case hr => first | (go_simp; done) | (go_simp; rfl)); (case hp => exact (zQ.one (show Kd.M (Kd.int .i64) _ _ _ a0_1 [.int .i64 a0_1] from rfl) (zQ.none _ _))); intro v476 wq2 ho7 hb hg_ hnew_; clear hg_ hnew_; (first | rw [← Ny475.out] at ho7 | (simp only [Int.reduceToNat] at ho7; rw [← Ny475.out] at ho7)); have HO477 := aS (Kd.zL ho7 (zg (bl HB))); replace BK474 := bb BK474 hb; replace HB := hB_ HB hb; clear hb ho7) | ((with_reducible refine zq (N := 20) rfl ?_); refine Kd.z1q (Kd.int .i64) _ 3 ?hg (N := 20) ?hd (xs := ([wrap64 (a1 + 1), a0_1] : List Int)) (inner := [.int .i64 (wrap64 (a1 + 1)), .int .i64 a0_1]) (ok := fun _ => True) (okp := fun _ => True) ?hr ?hp (fun _ hk => hk) trivial (Below.refl _ _) (Nat.le_refl _) (by simp) ?_; (case hd => rfl); (case hg => rfl); (case hr => first | (go_simp; done) | (go_simp; rfl)); (case hp => exact (zQ.one (show Kd.M (Kd.int .i64) _ _ _ (wrap64 (a1 + 1)) [.int .i64 (wrap64 (a1 + 1))] from rfl) (zQ.one (show Kd.M (Kd.int .i64) _ _ _ a0_1 [.int .i64 a0_1] from rfl) (zQ.none _ _)))); intro v479 wq2 ho15 hb hg_ hnew_; clear hg_ hnew_; (first | rw [← Ny478.out] at ho15 | (simp only [Int.reduceToNat] at ho15; rw [← Ny478.out] at ho15)); have HO480 := aS (Kd.zL ho15 (zg (bl HB))); replace BK474 := bb BK474 hb; replace HB := hB_ HB hb; clear hb ho15) | ((with_reducible refine zq (N := 29) rfl ?_); refine Kd.z1q (Kd.int .i64) _ 3 ?hg (N := 29) ?hd (xs := ([wrap64 (a1 + 1), a0_2, a0_3] : List Int)) (inner := [.int .i64 (wrap64 (a1 + 1)), .int .i64 a0_2, .int .i64 a0_3]) (ok := fun _ => True) (okp := fun _ => True) ?hr ?hp (fun _ hk => hk) trivial (Below.refl _ _) (Nat.le_refl _) (by simp) ?_; (case hd => rfl); (case hg => rfl); (case hr => first | (go_simp; done) | (go_simp; rfl)); (case hp => exact (zQ.one (show Kd.M (Kd.int .i64) _ _ _ (wrap64 (a1 + 1)) [.int .i64 (wrap64 (a1 + 1))] from rfl) (zQ.one (show Kd.M (Kd.int .i64) _ _ _ a0_2 [.int .i64 a0_2] from rfl) (zQ.one (show Kd.M (Kd.int .i64) _ _ _ a0_3 [.int .i64 a0_3] from rfl) (zQ.none _ _))))); intro v482 wq2 ho20 hb hg_ hnew_; clear hg_ hnew_; (first | rw [← Ny481.out] at ho20 | (simp only [Int.reduceToNat] at ho20; rw [← Ny481.out] at ho20)); have HO483 := aS (Kd.zL ho20 (zg (bl HB))); replace BK474 := bb BK474 hb; replace HB := hB_ HB hb; clear hb ho20) | ((with_reducible refine zq (N := 32) rfl ?_); refine Kd.z1q (Kd.int .i64) _ 3 ?hg (N := 32) ?hd (xs := ([wrap64 (a1 + 1)] : List Int)) (inner := [.int .i64 (wrap64 (a1 + 1))]) (ok := fun _ => True) (okp := fun _ => True) ?hr ?hp (fun _ hk => hk) trivial (Below.refl _ _) (Nat.le_refl _) (by simp) ?_; (case hd => rfl); (case hg => rfl); (case hr => first | (go_simp; done) | (go_simp; rfl)); (case hp => exact (zQ.one (show Kd.M (Kd.int .i64) _ _ _ (wrap64 (a1 + 1)) [.int .i64 (wrap64 (a1 + 1))] from rfl) (zQ.none _ _))); intro v485 wq2 ho24 hb hg_ hnew_; clear hg_ hnew_; (first | rw [← Ny484.out] at ho24 | (simp only [Int.reduceToNat] at ho24; rw [← Ny484.out] at ho24)); have HO486 := aS (Kd.zL ho24 (zg (bl HB))); replace BK474 := bb BK474 hb; replace HB := hB_ HB hb; clear hb ho24)))
 ·go_ret
  exact ⟨_, re, by exact rA HO477.out, bl HB⟩
 ·go_ret
  exact ⟨_, re, by first | exact Kd.z0l _ _ _ _ _ | exact Kd.z2l _ _ _ _ _ | exact Kd.z2w _ _ _ _ _ | exact Kd.z2o _ _ _ _ _ | exact Kd.z2u _ _ _ _ _, bl HB⟩
 ·go_ret
  exact ⟨_, re, by exact rA HO480.out, bl HB⟩
 ·go_ret
  exact ⟨_, re, by exact rA HO483.out, bl HB⟩
 ·go_ret
  exact ⟨_, re, by exact rA HO486.out, bl HB⟩
end
end
section
section
attribute [local go_sem] yd zV
attribute [local go_sem] xf xg xD xE yI yJ xl xm
mutual
def zp.j0 : Nat → List (S50) → Int → Bool → Option (List Int × Int)
 | 0, _, _, _ => none
 | k + 1, x0, x1, x25 => if x25 = true then (some (([] : List Int), 2)) else (if 0 ≤ x1 then (if x1 < (x0.length : Int) then (if 0 ≤ (((z8 x0 x1).f4).length : Int) then (if ((((z8 x0 x1).f4).length : Int) : Int).toNat ≤ 281474976710656 then ((some (List.replicate ((((z8 x0 x1).f4).length : Int) : Int).toNat false : List Bool)).bind fun y489 => (if 0 < (y489.length : Int) then (zp.l0 k ((z8 x0 x1).f4) (y489.set (0 : Int).toNat true) (([0] : List Int))) else (none))) else (none)) else (none)) else (none)) else (none))
def zp.l0 : Nat → List (S63) → List Bool → List Int → Option (List Int × Int)
 | 0, _, _, _ => none
 | k + 1, x6, x7, x8 => if (x8.length : Int) > 0 then (if 0 ≤ (wrap64 ((x8.length : Int) - 1)) then (if (wrap64 ((x8.length : Int) - 1)) < (x8.length : Int) then (if (wrap64 ((x8.length : Int) - 1)) ≤ (x8.length : Int) then (if 0 ≤ (rd x8 (wrap64 ((x8.length : Int) - 1))) then (if (rd x8 (wrap64 ((x8.length : Int) - 1))) < (x6.length : Int) then ((z1e.f ((zb x6 (rd x8 (wrap64 ((x8.length : Int) - 1)))).f0) ((zb x6 (rd x8 (wrap64 ((x8.length : Int) - 1)))).f1) ((zb x6 (rd x8 (wrap64 ((x8.length : Int) - 1)))).f2) ((zb x6 (rd x8 (wrap64 ((x8.length : Int) - 1)))).f3) ((zb x6 (rd x8 (wrap64 ((x8.length : Int) - 1)))).f4.f0) ((zb x6 (rd x8 (wrap64 ((x8.length : Int) - 1)))).f4.f1) ((zb x6 (rd x8 (wrap64 ((x8.length : Int) - 1)))).f4.f2) ((zb x6 (rd x8 (wrap64 ((x8.length : Int) - 1)))).f4.f3) (rd x8 (wrap64 ((x8.length : Int) - 1)))).bind fun t501 => (zp.l1 k x6 x7 (x8.take ((wrap64 ((x8.length : Int) - 1)) : Int).toNat) t501 (t501.length : Int) 0)) else (none)) else (none)) else (none)) else (none)) else (none)) else (zp.l2 k ([] : List Int) x7 (x7.length : Int) 0)
def zp.l1 : Nat → List (S63) → List Bool → List Int → List Int → Int → Int → Option (List Int × Int)
 | 0, _, _, _, _, _, _ => none
 | k + 1, x6, x7, x8, x56, x57, x58 => if x58 < x57 then (if 0 ≤ x58 then (if x58 < (x56.length : Int) then (if 0 ≤ (rd x56 x58) then (if (rd x56 x58) < (x7.length : Int) then (if (z1X false x7 (rd x56 x58) = true) then (zp.l1 k x6 x7 x8 x56 x57 (wrap64 (x58 + 1))) else (if x8.length < 17592186044416 then (zp.l1 k x6 (x7.set ((rd x56 x58) : Int).toNat true) (x8 ++ [rd x56 x58]) x56 x57 (wrap64 (x58 + 1))) else (none))) else (none)) else (none)) else (none)) else (none)) else (zp.l0 k x6 x7 x8)
def zp.l2 : Nat → List Int → List Bool → Int → Int → Option (List Int × Int)
 | 0, _, _, _, _ => none
 | k + 1, x12, x75, x76, x77 => if x77 < x76 then (if 0 ≤ x77 then (if x77 < (x75.length : Int) then (if z1X false x75 x77 = true then (if x12.length < 17592186044416 then (zp.l2 k (x12 ++ [x77]) x75 x76 (wrap64 (x77 + 1))) else (none)) else (zp.l2 k x12 x75 x76 (wrap64 (x77 + 1)))) else (none)) else (none)) else (some (x12, 0))
end
def zp.f (k : Nat) (l0 : List (S50)) (a1 : Int) : Option (List Int × Int) := (yF.f k l0).bind fun t487 => (if t487 = true then (if a1 < 0 then (zp.j0 k l0 a1 true) else (zp.j0 k l0 a1 (decide (a1 ≥ (l0.length : Int))))) else (some (([] : List Int), 5)))
theorem zp.calls (k : Nat) (A0 : Option Addr) (c0 : Nat) (l0 : List (S50)) (a1 : Int) (r1 : List Int) (r2 : Int) (w : World) (hG : GW w) (hr0 : Kd.C k50 w A0 l0.length l0) (hc0 : l0.length ≤ c0) (h : zp.f k l0 a1 = some (r1, r2)) :
 Calls Tryz.prog 25 #[.slice A0 l0.length c0, .int .i64 a1] w fun e w' => ∃ v0_ : Value, e = .returned (.tuple #[v0_, .int .i64 r2]) ∧ Kd.R (Kd.int .i64) 3 w' w.heap.size (fun _ => True) v0_ r1 ∧ Below w.heap.size w w' := by
 have hu63 := Tryz.underlying63
 have HR0 := aS hr0
 have HC0 := aS hc0
 clear hr0 hc0
 have HG := aS hG
 clear hG
 have HB := hR w
 have H := h
 unfold zp.f at H
 clear h
 replace H := bA H
 obtain ⟨t487, A3, H⟩ := H
 by_cases c4 : t487 = true; rotate_left
 ·replace c4 := Bool.eq_false_iff.mpr c4
  subst c4
  rw [if_neg iN] at H
  simp only [Option.some.injEq, Prod.mk.injEq] at H
  obtain ⟨rfl, rfl⟩ := H
  go_enter Tryz.func25, Tryz.ntmps25
  go_wp2_with (first | ((with_reducible refine zi (f := 13) rfl ?_); refine gl 16 Tryz.func13 #[.slice A0 l0.length c0] ?_; (with_reducible refine (yF.calls k _ _ l0 false _ ?side1 ?side2 ?side3 A3.out).mono ?_); (case side1 => exact GW.below HG.out (bl HB)); (case side2 => exact cA HR0.out); (case side3 => exact HC0.out); rintro e w53 ⟨rfl, hb⟩; refine ⟨_, rfl, ?_⟩; replace HB := hB_ HB hb; clear hb))
  go_ret2
  exact ⟨_, re, by first | exact Kd.z0l _ _ _ _ _ | exact Kd.z2l _ _ _ _ _ | exact Kd.z2w _ _ _ _ _ | exact Kd.z2o _ _ _ _ _ | exact Kd.z2u _ _ _ _ _, bl HB⟩
 subst c4
 rw [if_pos rfl] at H
 have HC5 := aS H
 clear H
 go_enter Tryz.func25, Tryz.ntmps25
 go_upto_region 3 with (first | ((with_reducible refine zi (f := 13) rfl ?_); refine gl 16 Tryz.func13 #[.slice A0 l0.length c0] ?_; (with_reducible refine (yF.calls k _ _ l0 true _ ?side1 ?side2 ?side3 A3.out).mono ?_); (case side1 => exact GW.below HG.out (bl HB)); (case side2 => exact cA HR0.out); (case side3 => exact HC0.out); rintro e w6 ⟨rfl, hb⟩; refine ⟨_, rfl, ?_⟩; replace HB := hB_ HB hb; clear hb))
 (try simp only [Act.put, List.setIfInBounds_toArray, List.set_cons_zero, List.set_cons_succ])
 go_cut [25] (fun v25 wc => ∃ (kq : Nat) (x25_4 : Bool), v25 = .bool x25_4 ∧ Aside0 (zp.j0 kq l0 a1 x25_4 = some (r1, r2)) ∧ Aside0 (kq ≤ k) ∧ Aside0 (Below w.heap.size w wc))
 case first =>
  have H := HC5.out
  clear HC5
  by_cases c7 : a1 < 0
  ·rw [if_pos c7] at H
   have c7b0 := dT c7
   clear c7
   (first | rw [c7b0] | (simp only [yh, yQ]; rw [c7b0]) | skip)
   have H' := aS H
   clear H
   go_wp2
   go_meet
   case rel => exact ⟨_, (true), rs, H', ⟨by first | omega | exact Nat.le_refl _⟩, ⟨bl HB⟩⟩
  ·rw [if_neg c7] at H
   have c7b0 := dF c7
   clear c7
   (first | rw [c7b0] | (simp only [yh, yQ]; rw [c7b0]) | skip)
   have H' := aS H
   clear H
   go_wp2
   go_meet
   case rel => exact ⟨_, (decide (a1 ≥ (l0.length : Int))), rs, H', ⟨by first | omega | exact Nat.le_refl _⟩, ⟨bl HB⟩⟩
 case rest =>
  clear HC5
  obtain ⟨kq, x25_4, rfl, HA, HJ4, HB⟩ := hcut
  cases kq with
  | zero => exact absurd HA.out (by simp [zp.j0])
  | succ kj4 =>
   have H := HA.out
   clear HA
   simp only [zp.j0] at H
   by_cases c8 : x25_4 = true
   ·subst c8
    rw [if_pos rfl] at H
    simp only [Option.some.injEq, Prod.mk.injEq] at H
    obtain ⟨rfl, rfl⟩ := H
    go_wp2
    go_ret2
    exact ⟨_, re, by first | exact Kd.z0l _ _ _ _ _ | exact Kd.z2l _ _ _ _ _ | exact Kd.z2w _ _ _ _ _ | exact Kd.z2o _ _ _ _ _ | exact Kd.z2u _ _ _ _ _, bl HB⟩
   replace c8 := Bool.eq_false_iff.mpr c8
   subst c8
   rw [if_neg iN] at H
   replace H := iD_ H
   obtain ⟨c9b0, H⟩ := H
   replace H := iD_ H
   obtain ⟨c10b0, H⟩ := H
   replace H := iE_ H
   obtain ⟨c11b0, c11b1, H⟩ := H
   replace H := iE_ H
   obtain ⟨c12b0, c12b1, H⟩ := H
   replace H := yB H
   obtain ⟨y489, Ny489, H⟩ := H
   replace H := iN_ H
   obtain ⟨c13, H⟩ := H
   have c13b0 := dT c13
   have c13b1 : decide (0 < y489.length) = true := dT (by omega)
   clear c13
   obtain ⟨y492, Ny492⟩ := yE (y489.set (0 : Int).toNat true : List Bool)
   rw [← Ny492.out] at H
   obtain ⟨y493, Ny493⟩ := yE (([0] : List Int) : List Int)
   rw [← Ny493.out] at H
   have H' := aS H
   clear H
   obtain ⟨ad488, A488_1, c488_1, A488_2, c488_2, A488_4, c488_4, e488, hx488_0, hx488_1, hx488_2, hx488_3, hx488_4, hl488_1, hi488_1, hl488_2, hi488_2, hl488_4, hi488_4⟩ := xW HR0.out a1 oa oa
   cases e488
   replace hx488_0 := xb HB hx488_0
   replace hx488_1 := xb HB hx488_1
   replace hx488_2 := xb HB hx488_2
   replace hx488_3 := xb HB hx488_3
   replace hx488_4 := xb HB hx488_4
   have HR488_1 := aS hi488_1
   have HC488_1 := aS hl488_1
   clear hi488_1 hl488_1
   have HR488_2 := aS hi488_2
   have HC488_2 := aS hl488_2
   clear hi488_2 hl488_2
   have HR488_4 := aS hi488_4
   have HC488_4 := aS hl488_4
   clear hi488_4 hl488_4
   have p488 : (0 ≤ (a1 : Int)) = True := tO
   have q488 : (a1 < (l0.length : Int)) = True := tO
   go_wp2_with (first | ((with_reducible refine zq (N := 33) rfl ?_); (try (refine yq (by rfl) ?_; dsimp only)); refine Kd.z1w Kd.bool _ 4 rfl (N := 33) rfl 120 _ _ rfl (((z8 l0 a1).f4).length : Int) rfl rfl Tryz.underlying120 (.bool false) 1 zci rfl (by decide) (by omega) false (ok := fun _ => True) (okp := fun _ => True) rfl (fun _ hk => hk) trivial (oa) (Nat.le_trans (Nat.mul_le_mul_right _ (oa : (((z8 l0 a1).f4).length : Int).toNat ≤ 281474976710656)) (by omega)) (Below.refl _ _) (Nat.le_refl _) ?_; intro v490 w15 ho16 hb hg_ hnew_; clear hg_ hnew_; (first | rw [← Ny489.out] at ho16 | (simp only [Int.reduceToNat] at ho16; rw [← Ny489.out] at ho16)); have HO491 := aS (Kd.zL ho16 (zg (bl HB))); replace HB := hB_ HB hb; clear hb ho16; have p14 : 0 ≤ (0 : Int) := (by omega); have q14 : (0 : Int) < ((y489.length : Int) : Int) := oa; have qi14 : (0 < y489.length) = True := eq_true (by omega); obtain ⟨go14, co14, eo14, gb14, gl14, cl14, HG14⟩ := Kd.z0M HO491.out (by omega); (first | cases eo14 | (injection eo14 with ea_ en_ ec_; (first | subst ea_ | (injection ea_ with ea_; subst ea_)); subst ec_; clear en_)); have GB14 := aS gb14; have GG14 := aS HG14; clear gb14 gl14 HG14; obtain ⟨hx14_0, hf14_0⟩ := Kd.yx false HO491.out (0 : Int) p14 q14; (try rw [show ((0 : Int)).toNat = 0 from rfl] at hx14_0); (try simp only [Nat.reduceMul, Nat.zero_mul, Nat.zero_add, Nat.reduceAdd] at hx14_0); (try rw [show ((0 : Int)).toNat = 0 from rfl] at hf14_0); (try simp only [Nat.reduceMul, Nat.zero_mul, Nat.zero_add, Nat.reduceAdd] at hf14_0); replace p14 := eq_true p14; replace q14 := eq_true q14; obtain ⟨hy17_, hz17_⟩ := Kd.yx false HO491.out (0 : Int) (by omega) (oa); (try simp only [Int.reduceToNat, Int.toNat_zero, Int.toNat_ofNat, Nat.reduceMul, Nat.zero_mul, Nat.zero_add] at hy17_ hz17_); (try rw [show ((0 : Int)).toNat = 0 from rfl] at hy17_); (try rw [show ((0 : Int)).toNat = 0 from rfl] at hz17_); have HP17 := Kd.z0q HO491.out (0 : Int) true) | ((with_reducible refine xJ (t := 4) (p := 35) rfl ?_); refine xA (t := 4) (p := 35) (v := ?vo_w18) (w1 := (w15.setCell ⟨go14, (0 : Int).toNat, none⟩ (.bool true))) ?hg ?ho ?hn ?hr ?_; (case ho => rfl); (case hg => rfl); (case hn => rfl); (case hr => first | (go_simp; done) | (go_simp; rfl)); intro w18 hw; have hg : w15.grownBy w18 (some go14) := (by rw [hw]; exact HP17.2); have hp_ : Kd.R Kd.bool 4 w18 w.heap.size (fun _ => True) (.slice (some ⟨go14, 0, none⟩) y489.length co14) y492 := (by rw [hw, Ny492.out]; exact HP17.1); clear HP17; replace HO491 := aS (hp_); replace HB := aS ((by rw [hw]; exact zG (HB.out) GB14.out : Below w.heap.size w w18)); clear hg hw hp_) | ((with_reducible refine zq (N := 36) rfl ?_); (try (refine yq (by rfl) ?_; dsimp only)); refine Kd.z1q (Kd.int .i64) _ 3 ?hg (N := 36) ?hd (xs := ([0] : List Int)) (inner := [.int .i64 0]) (ok := fun _ => True) (okp := fun _ => True) ?hr ?hp (fun _ hk => hk) trivial (Below.refl _ _) (Nat.le_refl _) (by simp) ?_; (case hd => rfl); (case hg => rfl); (case hr => first | (go_simp; done) | (go_simp; rfl)); (case hp => exact (zQ.one (show Kd.M (Kd.int .i64) _ _ _ 0 [.int .i64 0] from rfl) (zQ.none _ _))); intro v494 w19 ho20 hb hg_ hnew_; clear hg_ hnew_; (first | rw [← Ny493.out] at ho20 | (simp only [Int.reduceToNat] at ho20; rw [← Ny493.out] at ho20)); replace HO491 := aS (Kd.zU (by exact rA HO491.out) hb); have HO495 := aS (Kd.zL ho20 (zg (bl HB))); replace HB := hB_ HB hb; clear hb ho20))
   go_loopg [8] kj4 (fun kq v8 w' => ∃ (x7_2 : List Bool) (x8_2 : List Int), Aside0 (zp.l0 kq ((z8 l0 a1).f4) x7_2 x8_2 = some (r1, r2)) ∧ Aside0 (kq ≤ kj4) ∧ Aside0 (Kd.R Kd.bool 4 w' w.heap.size (fun _ => True) (.slice (some ⟨go14, 0, none⟩) y489.length co14) x7_2) ∧ Aside0 (Kd.R (Kd.int .i64) 3 w' w.heap.size (fun _ => True) v8 x8_2) ∧ Aside0 (Below w.heap.size w w'))
   case atStart => exact ⟨(y492), (y493), H', ⟨Nat.le_refl _⟩, ⟨by exact rA HO491.out⟩, ⟨by exact rA HO495.out⟩, ⟨bl HB⟩⟩
   case round =>
    clear H'
    obtain ⟨x7_2, x8_2, HA, HK2, HO_7, HO_8, HB⟩ := hrel
    have hl7_2 := (Kd.zz HO_7.out).1
    rw [hl7_2] at HO_7
    (try simp only [hl7_2])
    (try simp only [hl7_2] at HO_8)
    cases gk with
    | zero => exact absurd HA.out (by simp [zp.l0])
    | succ k2 =>
     have H := HA.out
     clear HA
     simp only [zp.l0] at H
     by_cases c21 : (x8_2.length : Int) > 0; rotate_left
     ·rw [if_neg c21] at H
      have c21b0 := dF c21
      have c21b1 : decide (0 < x8_2.length) = false := dF (by omega)
      clear c21
      have H' := aS H
      clear H
      obtain ⟨Ao45, co45, eo45⟩ := Kd.zB HO_8.out
      subst eo45
      go_wp2
      go_loopg [12, 77] k2 (fun kq v12 v77 w' => ∃ (x12_3 : List Int) (x77_3 : Int), v77 = .int .i64 x77_3 ∧ Aside0 (zp.l2 kq x12_3 x7_2 (x7_2.length : Int) x77_3 = some (r1, r2)) ∧ Aside0 (kq ≤ k2) ∧ Aside0 (Kd.R (Kd.int .i64) 3 w' w.heap.size (fun _ => True) v12 x12_3) ∧ Aside0 (Kd.R Kd.bool 4 w' w.heap.size (fun _ => True) (.slice (some ⟨go14, 0, none⟩) x7_2.length co14) x7_2) ∧ Aside0 (Below w.heap.size w w'))
      case atStart => exact ⟨(([] : List Int)), (0), rs, H', ⟨Nat.le_refl _⟩, ⟨by (try simp only [hl7_2]); first | exact Kd.z0l _ _ _ _ _ | exact Kd.z2l _ _ _ _ _ | exact Kd.z2w _ _ _ _ _ | exact Kd.z2o _ _ _ _ _ | exact Kd.z2u _ _ _ _ _⟩, ⟨by (try simp only [hl7_2]); (with_reducible repeat (first | apply Kd.xB | apply Kd.yK | apply Kd.xu)); exact HO_7.out⟩, ⟨bl HB⟩⟩
      case round =>
       clear H'
       obtain ⟨x12_3, x77_3, rfl, HA, HK3, HO_12, HO_75, HB⟩ := hrel
       cases gk with
       | zero => exact absurd HA.out (by simp [zp.l2])
       | succ k3 =>
        have H := HA.out
        clear HA
        simp only [zp.l2] at H
        by_cases c46 : x77_3 < (x7_2.length : Int); rotate_left
        ·rw [if_neg c46] at H
         have c46b0 := dF c46
         clear c46
         simp only [Option.some.injEq, Prod.mk.injEq] at H
         obtain ⟨rfl, rfl⟩ := H
         go_wp2
         go_ret2
         exact ⟨_, re, by exact rA HO_12.out, bl HB⟩
        rw [if_pos c46] at H
        have c46b0 := dT c46
        clear c46
        replace H := iD_ H
        obtain ⟨c47b0, H⟩ := H
        replace H := iD_ H
        obtain ⟨c48b0, H⟩ := H
        obtain ⟨bq49, hbq49⟩ : ∃ b_ : Bool, b_ = (z1X false x7_2 x77_3) := ⟨_, rfl⟩
        replace H : (if bq49 = true then (if x12_3.length < 17592186044416 then (zp.l2 k3 (x12_3 ++ [x77_3]) x7_2 (x7_2.length : Int) (wrap64 (x77_3 + 1))) else (none)) else (zp.l2 k3 x12_3 x7_2 (x7_2.length : Int) (wrap64 (x77_3 + 1)))) = some (r1, r2) := by rw [← hbq49] at H; exact H
        have Nbq49 := aS hbq49
        clear hbq49
        by_cases c50 : bq49 = true; rotate_left
        ·replace c50 := Bool.eq_false_iff.mpr c50
         subst c50
         rw [if_neg iN] at H
         have H' := aS H
         clear H
         have p510 : 0 ≤ (x77_3 : Int) := oa
         have q510 : x77_3 < (x7_2.length : Int) := oa
         obtain ⟨ad510, e510, hx510_0⟩ := Kd.z1J (Kd.zz HO_75.out).2.2 x77_3 p510 q510
         (try rw [← Nbq49.out] at hx510_0)
         obtain rfl : (⟨go14, 0, none⟩ : Addr) = ad510 := (by injection e510)
         (first | simp only [add_plain] at hx510_0 | simp only [z2a] at hx510_0 | simp only [Addr.add, Nat.zero_add] at hx510_0 | skip)
         replace p510 := eq_true p510
         replace q510 := eq_true q510
         go_wp2
         go_roundg k3
         case measure => have := HJ4.out; have := HK2.out; have := HK3.out; omega
         case rel => exact ⟨(x12_3), (wrap64 (x77_3 + 1)), rs, H', ⟨by have := HJ4.out; have := HK2.out; have := HK3.out; omega⟩, ⟨by (try simp only [hl7_2]); (with_reducible repeat (first | apply Kd.xB | apply Kd.yK | apply Kd.xu)); exact HO_12.out⟩, ⟨by (try simp only [hl7_2]); (with_reducible repeat (first | apply Kd.xB | apply Kd.yK | apply Kd.xu)); exact HO_75.out⟩, ⟨bl HB⟩⟩
        subst c50
        rw [if_pos rfl] at H
        replace H := iN_ H
        obtain ⟨c51, H⟩ := H
        have LMc51 := aS c51
        clear c51
        obtain ⟨y511, Ny511⟩ := yE (x12_3 ++ [x77_3] : List Int)
        rw [← Ny511.out] at H
        have H' := aS H
        clear H
        have p510 : 0 ≤ (x77_3 : Int) := oa
        have q510 : x77_3 < (x7_2.length : Int) := oa
        obtain ⟨ad510, e510, hx510_0⟩ := Kd.z1J (Kd.zz HO_75.out).2.2 x77_3 p510 q510
        (try rw [← Nbq49.out] at hx510_0)
        obtain rfl : (⟨go14, 0, none⟩ : Addr) = ad510 := (by injection e510)
        (first | simp only [add_plain] at hx510_0 | simp only [z2a] at hx510_0 | simp only [Addr.add, Nat.zero_add] at hx510_0 | skip)
        replace p510 := eq_true p510
        replace q510 := eq_true q510
        go_wp2_with (first | ((with_reducible refine yV (b := .append) (xs := #[.tmp 83, .tmp 85]) rfl ?_); (try (refine yq (by rfl) ?_; dsimp only)); at_builtin; refine Kd.z0C (Kd.int .i64) (w0 := w) w.heap.size rfl (.tmp 83) (.tmp 85) 42 3 (.int .i64 0) 8 rfl Tryz.underlying42 z3z rfl (by decide) (by omega) u12 x12_3 x77_3 [.int .i64 x77_3] (fun _ => True) (fun _ => False) rfl rfl ?aP (fun _ hk => hk.elim) ?aF ?aO ?aB ?aS ?aL ?_; (case aP => exact rfl); (case aB => exact (bl HB)); (case aF => exact (fun _ _ => trivial)); (case aO => exact (by exact rA HO_12.out)); (case aS => exact (zg (bl HB))); (case aL => have := LMc51.out; omega); intro v512 w52 ho hb hg hat; rw [← Ny511.out] at ho; replace HO_75 := aS (Kd.z29 (by exact rA HO_75.out) (Kd.z0I (by exact rA HO_12.out)) (by decide) hg); replace HB := aS (hb); have HO513 := aS (ho); clear HO_12; clear ho hb hg hat))
        go_roundg k3
        case measure => have := HJ4.out; have := HK2.out; have := HK3.out; omega
        case rel => exact ⟨(y511), (wrap64 (x77_3 + 1)), rs, H', ⟨by have := HJ4.out; have := HK2.out; have := HK3.out; omega⟩, ⟨by (try simp only [hl7_2]); (with_reducible repeat (first | apply Kd.xB | apply Kd.yK | apply Kd.xu)); exact HO513.out⟩, ⟨by (try simp only [hl7_2]); (with_reducible repeat (first | apply Kd.xB | apply Kd.yK | apply Kd.xu)); exact HO_75.out⟩, ⟨bl HB⟩⟩
     rw [if_pos c21] at H
     have c21b0 := dT c21
     have c21b1 : decide (0 < x8_2.length) = true := dT (by omega)
     clear c21
     obtain ⟨ji22, hji22⟩ : ∃ j_ : Int, (wrap64 ((x8_2.length : Int) - 1)) = j_ := ⟨_, rfl⟩
     simp only [hji22] at H
     have hji22w : (IntKind.i64.wrap ((x8_2.length : Int) - 1)) = ji22 := (yh _).trans hji22
     replace H := iD_ H
     obtain ⟨c23b0, H⟩ := H
     replace H := iD_ H
     obtain ⟨c24b0, H⟩ := H
     replace H := iE_ H
     obtain ⟨c25b0, c25b1, H⟩ := H
     obtain ⟨y497, Ny497⟩ := yE (x8_2.take ((ji22) : Int).toNat : List Int)
     rw [← Ny497.out] at H
     replace H := iD_ H
     obtain ⟨c26b0, H⟩ := H
     replace H := iD_ H
     obtain ⟨c27b0, H⟩ := H
     replace H := bA H
     obtain ⟨t501, A28, H⟩ := H
     have H' := aS H
     clear H
     obtain ⟨Ao29, co29, eo29⟩ := Kd.zB HO_8.out
     subst eo29
     obtain ⟨ad496, e496, hx496_0⟩ := Kd.zT (Kd.zz HO_8.out).2.2 (ji22) oa oa
     cases e496
     have p496 : (0 ≤ ((ji22) : Int)) = True := tO
     have q496 : ((ji22) < (x8_2.length : Int)) = True := tO
     have q30 : ((ji22) : Int) ≤ ((x8_2.length : Int) : Int) := oa
     obtain ⟨i030, hi030, _, hsz30, _⟩ := info_parts z3z
     have hcut30 := z6g (P := Tryz.prog) 42 3 .i64 Tryz.underlying42 hi030 (some ad496) x8_2.length co29 (ji22) (oa) q30 (Kd.zz HO_8.out).2.1
     have hr30 := Kd.z7o (m := ((ji22) : Int).toNat) HO_8.out (by omega)
     have hy30 : y497.length = ((ji22) : Int).toNat := (by rw [Ny497.out, List.length_take]; omega)
     rw [← Ny497.out] at hr30
     rw [← hy30] at hr30 hcut30
     clear hy30 hi030 hsz30 HO_8
     have HO499 := aS hr30
     clear hr30
     replace q30 := eq_true q30
     obtain ⟨ad500, A500_6, c500_6, A500_7, c500_7, e500, hx500_0, hx500_1, hx500_2, hx500_3, hx500_4, hx500_5, hx500_6, hx500_7, hl500_6, hi500_6, hl500_7, hi500_7⟩ := z0j HR488_4.out (rd x8_2 (ji22)) oa oa
     cases e500
     replace hx500_0 := xb HB hx500_0
     replace hx500_1 := xb HB hx500_1
     replace hx500_2 := xb HB hx500_2
     replace hx500_3 := xb HB hx500_3
     replace hx500_4 := xb HB hx500_4
     replace hx500_5 := xb HB hx500_5
     replace hx500_6 := xb HB hx500_6
     replace hx500_7 := xb HB hx500_7
     have HR500_6 := aS hi500_6
     have HC500_6 := aS hl500_6
     clear hi500_6 hl500_6
     have HR500_7 := aS hi500_7
     have HC500_7 := aS hl500_7
     clear hi500_7 hl500_7
     have p500 : (0 ≤ ((rd x8_2 (ji22)) : Int)) = True := tO
     have q500 : ((rd x8_2 (ji22)) < (((z8 l0 a1).f4).length : Int)) = True := tO
     go_wp2_with (first | ((with_reducible refine zi (f := 76) rfl ?_); refine z7A (some 56) rfl rfl Tryz.func76 (by kernel_rfl) rfl #[.agg #[.int .i64 ((zb ((z8 l0 a1).f4) (rd x8_2 (ji22))).f0), .int .i64 ((zb ((z8 l0 a1).f4) (rd x8_2 (ji22))).f1), .int .i64 ((zb ((z8 l0 a1).f4) (rd x8_2 (ji22))).f2), .int .i64 ((zb ((z8 l0 a1).f4) (rd x8_2 (ji22))).f3), .int .i64 ((zb ((z8 l0 a1).f4) (rd x8_2 (ji22))).f4.f0), .bool ((zb ((z8 l0 a1).f4) (rd x8_2 (ji22))).f4.f1), .slice A500_6 ((zb ((z8 l0 a1).f4) (rd x8_2 (ji22))).f4.f2).length c500_6, .slice A500_7 ((zb ((z8 l0 a1).f4) (rd x8_2 (ji22))).f4.f3).length c500_7], .int .i64 (rd x8_2 (ji22))] rfl (by (try simp only [List.map_toArray, List.map_cons, List.map_nil]); first | done | (simp only [hji22]; rfl) | rfl | (simp only [List.length_drop, List.length_take]; rfl) | (simp only [ByteArray.size_append, Int.toNat_natCast]; rfl)) ?_; (with_reducible refine (z1e.calls ((zb ((z8 l0 a1).f4) (rd x8_2 (ji22))).f0) ((zb ((z8 l0 a1).f4) (rd x8_2 (ji22))).f1) ((zb ((z8 l0 a1).f4) (rd x8_2 (ji22))).f2) ((zb ((z8 l0 a1).f4) (rd x8_2 (ji22))).f3) ((zb ((z8 l0 a1).f4) (rd x8_2 (ji22))).f4.f0) ((zb ((z8 l0 a1).f4) (rd x8_2 (ji22))).f4.f1) _ _ ((zb ((z8 l0 a1).f4) (rd x8_2 (ji22))).f4.f2) _ _ ((zb ((z8 l0 a1).f4) (rd x8_2 (ji22))).f4.f3) (rd x8_2 (ji22)) t501 _ ?side1 ?side2 ?side3 ?side4 A28.out).mono ?_); (case side1 => exact cb HR500_6 HB); (case side2 => exact HC500_6.out); (case side3 => exact cb HR500_7 HB); (case side4 => exact HC500_7.out); rintro e w31 ⟨v502, rfl, ho0, hb⟩; refine ⟨_, rfl, ?_⟩; replace HO_7 := aS (Kd.zU (by exact rA HO_7.out) hb); have HO503 := aS (Kd.zL (Kd.z2q ho0 (Kd.z27 (by exact rA HO499.out))) (zg (bl HB))); replace HO499 := aS (Kd.yP (by exact rA HO499.out) (Kd.yf ho0) hb); replace HB := hB_ HB hb; clear hb ho0; obtain ⟨Ao32, co32, eo32⟩ := Kd.zB HO503.out; subst eo32))
     go_loopg [8, 58] k2 (fun kq v8 v58 w' => ∃ (x7_3 : List Bool) (x8_3 : List Int) (x58_3 : Int), v58 = .int .i64 x58_3 ∧ Aside0 (zp.l1 kq ((z8 l0 a1).f4) x7_3 x8_3 t501 (t501.length : Int) x58_3 = some (r1, r2)) ∧ Aside0 (kq ≤ k2) ∧ Aside0 (Kd.R Kd.bool 4 w' w.heap.size (fun _ => True) (.slice (some ⟨go14, 0, none⟩) x7_2.length co14) x7_3) ∧ Aside0 (Kd.R (Kd.int .i64) 3 w' w.heap.size (fun k_ => some k_ ≠ ((.slice Ao32 t501.length co32) : Value).ownBlock) v8 x8_3) ∧ Aside0 (Kd.R (Kd.int .i64) 3 w' w.heap.size (fun k_ => some k_ ≠ (v8 : Value).ownBlock) (.slice Ao32 t501.length co32) t501) ∧ Aside0 (Below w.heap.size w w'))
     case atStart => exact ⟨(x7_2), (y497), (0), rs, H', ⟨Nat.le_refl _⟩, ⟨by (try simp only [hl7_2]); (with_reducible repeat (first | apply Kd.xB | apply Kd.yK | apply Kd.xu)); exact HO_7.out⟩, ⟨by (try simp only [hl7_2]); (with_reducible repeat (first | apply Kd.xB | apply Kd.yK | apply Kd.xu)); exact Kd.zw HO499.out (fun _ hk => hk.2)⟩, ⟨by (try simp only [hl7_2]); (with_reducible repeat (first | apply Kd.xB | apply Kd.yK | apply Kd.xu)); exact Kd.zw HO503.out (fun _ hk => hk.2)⟩, ⟨bl HB⟩⟩
     case round =>
      clear H'
      obtain ⟨x7_3, x8_3, x58_3, rfl, HA, HK3, HO_7, HO_8, HO_56, HB⟩ := hrel
      have hl7_3 := (Kd.zz HO_7.out).1
      rw [hl7_3] at HO_7
      (try simp only [hl7_3])
      (try simp only [hl7_3] at HO_8)
      (try simp only [hl7_3] at HO_56)
      cases gk with
      | zero => exact absurd HA.out (by simp [zp.l1])
      | succ k3 =>
       have H := HA.out
       clear HA
       simp only [zp.l1] at H
       by_cases c33 : x58_3 < (t501.length : Int); rotate_left
       ·rw [if_neg c33] at H
        have c33b0 := dF c33
        clear c33
        have H' := aS H
        clear H
        go_wp2
        (try simp only [← hl7_2, ← hl7_3])
        go_roundg k3
        case measure => have := HJ4.out; have := HK2.out; have := HK3.out; omega
        case rel => exact ⟨(x7_3), (x8_3), H', ⟨by have := HJ4.out; have := HK2.out; have := HK3.out; omega⟩, ⟨by (try simp only [hl7_2]); (try simp only [hl7_3]); (with_reducible repeat (first | apply Kd.xB | apply Kd.yK | apply Kd.xu)); exact HO_7.out⟩, ⟨by (try simp only [hl7_2]); (try simp only [hl7_3]); (with_reducible repeat (first | apply Kd.xB | apply Kd.yK | apply Kd.xu)); exact Kd.zw HO_8.out (fun _ hk => trivial)⟩, ⟨bl HB⟩⟩
       rw [if_pos c33] at H
       have c33b0 := dT c33
       clear c33
       replace H := iD_ H
       obtain ⟨c34b0, H⟩ := H
       replace H := iD_ H
       obtain ⟨c35b0, H⟩ := H
       replace H := iD_ H
       obtain ⟨c36b0, H⟩ := H
       replace H := iD_ H
       obtain ⟨c37b0, H⟩ := H
       obtain ⟨bq38, hbq38⟩ : ∃ b_ : Bool, b_ = (z1X false x7_3 (rd t501 x58_3)) := ⟨_, rfl⟩
       replace H : (if (bq38 = true) then (zp.l1 k3 ((z8 l0 a1).f4) x7_3 x8_3 t501 (t501.length : Int) (wrap64 (x58_3 + 1))) else (if x8_3.length < 17592186044416 then (zp.l1 k3 ((z8 l0 a1).f4) (x7_3.set ((rd t501 x58_3) : Int).toNat true) (x8_3 ++ [rd t501 x58_3]) t501 (t501.length : Int) (wrap64 (x58_3 + 1))) else (none))) = some (r1, r2) := by rw [← hbq38] at H; exact H
       have Nbq38 := aS hbq38
       clear hbq38
       by_cases c39 : (bq38 = true)
       ·subst c39
        rw [if_pos rfl] at H
        have H' := aS H
        clear H
        obtain ⟨ad504, e504, hx504_0⟩ := Kd.zT (Kd.zz HO_56.out).2.2 x58_3 oa oa
        cases e504
        have p504 : (0 ≤ (x58_3 : Int)) = True := tO
        have q504 : (x58_3 < (t501.length : Int)) = True := tO
        have p505 : 0 ≤ ((rd t501 x58_3) : Int) := oa
        have q505 : (rd t501 x58_3) < (x7_3.length : Int) := oa
        obtain ⟨ad505, e505, hx505_0⟩ := Kd.z1J (Kd.zz HO_7.out).2.2 (rd t501 x58_3) p505 q505
        (try rw [← Nbq38.out] at hx505_0)
        obtain rfl : (⟨go14, 0, none⟩ : Addr) = ad505 := (by injection e505)
        (first | simp only [add_plain] at hx505_0 | simp only [z2a] at hx505_0 | simp only [Addr.add, Nat.zero_add] at hx505_0 | skip)
        replace p505 := eq_true p505
        replace q505 := eq_true q505
        go_wp2
        (try simp only [← hl7_3])
        go_roundg k3
        case measure => have := HJ4.out; have := HK2.out; have := HK3.out; omega
        case rel => exact ⟨(x7_3), (x8_3), (wrap64 (x58_3 + 1)), rs, H', ⟨by have := HJ4.out; have := HK2.out; have := HK3.out; omega⟩, ⟨by (try simp only [hl7_2]); (try simp only [hl7_3]); (with_reducible repeat (first | apply Kd.xB | apply Kd.yK | apply Kd.xu)); exact HO_7.out⟩, ⟨by (try simp only [hl7_2]); (try simp only [hl7_3]); (with_reducible repeat (first | apply Kd.xB | apply Kd.yK | apply Kd.xu)); exact HO_8.out⟩, ⟨by (try simp only [hl7_2]); (try simp only [hl7_3]); (with_reducible repeat (first | apply Kd.xB | apply Kd.yK | apply Kd.xu)); exact HO_56.out⟩, ⟨bl HB⟩⟩
       replace c39 := Bool.eq_false_iff.mpr c39
       subst c39
       rw [if_neg iN] at H
       obtain ⟨y506, Ny506⟩ := yE (x7_3.set ((rd t501 x58_3) : Int).toNat true : List Bool)
       rw [← Ny506.out] at H
       replace H := iN_ H
       obtain ⟨c41, H⟩ := H
       have LMc41 := aS c41
       clear c41
       obtain ⟨y507, Ny507⟩ := yE (x8_3 ++ [rd t501 x58_3] : List Int)
       rw [← Ny507.out] at H
       have H' := aS H
       clear H
       obtain ⟨ad504, e504, hx504_0⟩ := Kd.zT (Kd.zz HO_56.out).2.2 x58_3 oa oa
       cases e504
       have p504 : (0 ≤ (x58_3 : Int)) = True := tO
       have q504 : (x58_3 < (t501.length : Int)) = True := tO
       have p505 : 0 ≤ ((rd t501 x58_3) : Int) := oa
       have q505 : (rd t501 x58_3) < (x7_3.length : Int) := oa
       obtain ⟨ad505, e505, hx505_0⟩ := Kd.z1J (Kd.zz HO_7.out).2.2 (rd t501 x58_3) p505 q505
       (try rw [← Nbq38.out] at hx505_0)
       obtain rfl : (⟨go14, 0, none⟩ : Addr) = ad505 := (by injection e505)
       (first | simp only [add_plain] at hx505_0 | simp only [z2a] at hx505_0 | simp only [Addr.add, Nat.zero_add] at hx505_0 | skip)
       replace p505 := eq_true p505
       replace q505 := eq_true q505
       obtain ⟨hx40_0, hf40_0⟩ := Kd.yx false HO_7.out ((rd t501 x58_3) : Int) oa oa
       have p40 : (0 ≤ ((rd t501 x58_3) : Int)) = True := tO
       have q40 : (((rd t501 x58_3) : Int) < ((x7_3.length : Int) : Int)) = True := tO
       have HP42 := Kd.z0q HO_7.out ((rd t501 x58_3) : Int) true
       go_wp2_with (first | ((with_reducible refine xJ (t := 4) (p := 69) rfl ?_); refine xA (t := 4) (p := 69) (v := ?vo_w43) (w1 := (wr.setCell ⟨go14, ((rd t501 x58_3) : Int).toNat, none⟩ (.bool true))) ?hg ?ho ?hn ?hr ?_; (case ho => rfl); (case hg => rfl); (case hn => rfl); (case hr => first | (go_simp; done) | (go_simp; rfl)); intro w43 hw; have hg : wr.grownBy w43 (some go14) := (by rw [hw]; exact HP42.2); have hp_ : Kd.R Kd.bool 4 w43 w.heap.size (fun _ => True) (.slice (some ⟨go14, 0, none⟩) x7_3.length co14) y506 := (by rw [hw, Ny506.out]; exact HP42.1); clear HP42; have n0_ := aS (hp_); have n1_ := aS (Kd.z29 (v := (.slice (some ⟨go14, 0, none⟩) x7_3.length co14)) (by exact rA HO_8.out) (Kd.z0I HO_7.out) (by decide) hg); have n2_ := aS (Kd.z29 (v := (.slice (some ⟨go14, 0, none⟩) x7_3.length co14)) (by exact rA HO_56.out) (Kd.z0I HO_7.out) (by decide) hg); have n3_ := aS ((by rw [hw]; exact zG (HB.out) GB14.out : Below w.heap.size w w43)); clear HO_7; clear HO_8; clear HO_56; clear HB; have HO_7 := n0_; have HO_8 := n1_; have HO_56 := n2_; have HB := n3_; clear n0_ n1_ n2_ n3_; clear hg hw hp_) | ((with_reducible refine yV (b := .append) (xs := #[.tmp 70, .tmp 72]) rfl ?_); (try (refine yq (by rfl) ?_; dsimp only)); at_builtin; refine Kd.z0C (Kd.int .i64) (w0 := w) w.heap.size rfl (.tmp 70) (.tmp 72) 42 3 (.int .i64 0) 8 rfl Tryz.underlying42 z3z rfl (by decide) (by omega) u8 x8_3 (rd t501 x58_3) [.int .i64 (rd t501 x58_3)] (fun k_ => some k_ ≠ (.slice (some ad504) t501.length co32 : Value).ownBlock) (fun _ => False) rfl rfl ?aP (fun _ hk => hk.elim) ?aF ?aO ?aB ?aS ?aL ?_; (case aP => exact rfl); (case aB => exact (bl HB)); (case aF => exact (fun k_ hk => Kd.z0F (Kd.z27 (by exact rA HO_56.out)) k_ hk)); (case aO => exact (by exact rA HO_8.out)); (case aS => exact (zg (bl HB))); (case aL => have := LMc41.out; omega); intro v508 w44 ho hb hg hat; rw [← Ny507.out] at ho; replace HO_7 := aS (Kd.z29 (by exact rA HO_7.out) (Kd.z0I (by exact rA HO_8.out)) (by decide) hg); replace HO_56 := aS (Kd.z3r (ok := (fun _ => True)) (by exact rA (Kd.zw HO_56.out (fun _ hk => ⟨trivial, hk⟩))) hg hat); replace HB := aS (hb); have HO509 := aS (ho); clear HO_8; clear ho hb hg hat))
       (try simp only [← hl7_3])
       go_roundg k3
       case measure => have := HJ4.out; have := HK2.out; have := HK3.out; omega
       case rel => exact ⟨(y506), (y507), (wrap64 (x58_3 + 1)), rs, H', ⟨by have := HJ4.out; have := HK2.out; have := HK3.out; omega⟩, ⟨by (try simp only [hl7_2]); (try simp only [hl7_3]); (with_reducible repeat (first | apply Kd.xB | apply Kd.yK | apply Kd.xu)); exact HO_7.out⟩, ⟨by (try simp only [hl7_2]); (try simp only [hl7_3]); (with_reducible repeat (first | apply Kd.xB | apply Kd.yK | apply Kd.xu)); exact HO509.out⟩, ⟨by (try simp only [hl7_2]); (try simp only [hl7_3]); (with_reducible repeat (first | apply Kd.xB | apply Kd.yK | apply Kd.xu)); exact Kd.zw HO_56.out (fun _ hk => hk.2)⟩, ⟨bl HB⟩⟩
end
end
end Go.Proofs.QP

