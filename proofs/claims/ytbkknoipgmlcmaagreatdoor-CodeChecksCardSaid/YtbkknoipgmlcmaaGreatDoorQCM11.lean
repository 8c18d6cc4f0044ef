import Derived.Lib.AppendZeros
import Derived.LoopN
import Derived.Handy
import Derived.WalkKit
import Derived.KernelRfl
import Derived.Laws.Externs
import Derived.Laws.BitsLemmas
import Derived.Test.YtbkknoipgmlcmaaGreatDoorQCM10
set_option linter.unusedVariables false
set_option linter.unusedSimpArgs false
set_option maxHeartbeats 8000000
set_option maxRecDepth 100000
namespace Go.Proofs.YtbkknoipgmlcmaaGreatDoor.P
open Go.RowKit Go.Proofs.YtbkknoipgmlcmaaGreatDoorW.PrintWords Go.Proofs.YtbkknoipgmlcmaaGreatDoorW.PrintLast Go.Proofs.YtbkknoipgmlcmaaGreatDoorW.PrintMore
open Go.Proofs.FX
theorem dims_ev {l : List Int} (hl : l.length ≤ 9223372036854775807) : ∀ (m j : Nat), j + m = l.length → (∀ i < j, dimOk (rd l (i : Int))) → ∃ r : Int, Ev (fun k => slices_IndexFunc_int_int_at_shape_IsType_1.l0 k l (l.length : Int) (j : Int)) r ∧ (0 ≤ r ↔ ¬ ∀ i < l.length, dimOk (rd l (i : Int)))
 | 0, j, hj, h => by
  refine ⟨-1, Ev.step (f := fun _ => some (-1)) (fun k => ?_) (Ev.now _), ⟨fun h => absurd h (by decide), fun h2 => absurd (fun i hi => h i (by omega)) h2⟩⟩
  simp only [slices_IndexFunc_int_int_at_shape_IsType_1.l0]
  rw [if_neg (by omega)]
 | m + 1, j, hj, h => by
  have e1 : wrap64 ((j : Int) + 1) = ((j + 1 : Nat) : Int) := by unfold wrap64; omega
  by_cases hd : dimOk (rd l (j : Int))
  ·obtain ⟨r, hr, hi⟩ := dims_ev hl m (j + 1) (by omega) (fun i hi => (Nat.lt_succ_iff_lt_or_eq.1 hi).elim (h i) (fun e => by rw [e]; exact hd))
   refine ⟨r, Ev.step (fun k => ?_) hr, hi⟩
   have hf : shape_IsType_1.f (rd l (j : Int)) = some false := by
    unfold shape_IsType_1.f
    rw [if_neg (by have := hd.1; omega), dF (by have := hd.2; omega)]
   simp only [slices_IndexFunc_int_int_at_shape_IsType_1.l0, hf, Option.bind_some, e1]
   rw [if_pos (by omega), if_pos (by omega), if_pos (by omega), if_neg (by decide)]
  ·refine ⟨(j : Int), Ev.step (f := fun _ => some (j : Int)) (fun k => ?_) (Ev.now _), ⟨fun _ h2 => hd (h2 j (by omega)), fun _ => by omega⟩⟩
   have hf : shape_IsType_1.f (rd l (j : Int)) = some true := by
    unfold shape_IsType_1.f
    by_cases h1 : rd l (j : Int) < 1
    ·rw [if_pos h1]
    ·rw [if_neg h1, dT (by unfold dimOk at hd; omega)]
   simp only [slices_IndexFunc_int_int_at_shape_IsType_1.l0, hf, Option.bind_some]
   rw [if_pos (by omega), if_pos (by omega), if_pos (by omega), if_pos trivial]
theorem pisType_ev (k0 : Int) {l : List Int} (hl : l.length ≤ 9223372036854775807) : Ev (fun k => shape_IsType.f k k0 l) (isTypeR k0 l) := by
 obtain ⟨r, hr, hi⟩ := dims_ev hl l.length 0 (Nat.zero_add _) (fun i hi => absurd hi (Nat.not_lt_zero _))
 obtain ⟨bad, hb⟩ : ∃ bad, (!decide (∀ i < l.length, dimOk (rd l (i : Int)))) = bad := ⟨_, rfl⟩
 have hrb : decide (0 ≤ r) = bad := by
  rw [← hb]
  by_cases h : ∀ i < l.length, dimOk (rd l (i : Int))
  ·rw [dT h, dF (fun h2 => hi.1 h2 h)]; rfl
  ·rw [dF h, dT (hi.2 h)]; rfl
 have hR : isTypeR k0 l = (!bad && (if k0 = 3 then decide (l.length = 1) else decide (k0 = 1 ∨ k0 = 2) && decide (l.length ≤ 3))) := by
  unfold isTypeR
  rw [← hb, Bool.not_not]
 have hC : Ev (fun k => slices_ContainsFunc_int_int_at_shape_IsType_1.f k l) bad := by
  refine Ev.bind (g := fun k => slices_IndexFunc_int_int_at_shape_IsType_1.f k l) hr ?_
  refine Ev.congr (f := fun _ => some bad) (fun k => ?_) (Ev.now _)
  congr 1
 refine Ev.bind (g := fun k => slices_ContainsFunc_int_int_at_shape_IsType_1.f k l) hC ?_
 have e3 : decide ((l.length : Int) ≤ 3) = decide (l.length ≤ 3) := decide_eq_decide.2 (by omega)
 have e1 : ((l.length : Int) == 1) = decide (l.length = 1) := by
  rw [Bool.eq_iff_iff, beq_iff_eq, decide_eq_true_eq]; omega
 rw [hR]
 clear hR hC hb hrb hr hi
 by_cases h1 : k0 = 1
 ·subst h1
  refine Ev.congr (fun k => if_pos rfl) (Ev.step (f := fun _ => some _) (fun k => ?_) (Ev.now _))
  cases bad <;> simp [shape_IsType.j0, e3]
 ·refine Ev.congr (fun k => if_neg h1) (Ev.step (f := fun _ => some _) (fun k => ?_) (Ev.now _))
  by_cases h2 : k0 = 2
  ·subst h2
   cases bad <;> simp [shape_IsType.j0, e3]
  ·by_cases h3 : k0 = 3
   ·subst h3
    cases bad <;> simp [shape_IsType.j0, e1] <;> omega
   ·cases bad <;> simp [shape_IsType.j0, h1, h2, h3]
theorem isType_calls (k : Int) (A : Option Addr) (c : Nat) (l : List Int) (w : World) (hr : Kd.C (Kd.int .i64) w A l.length l) (hc : l.length ≤ c) :
 Calls Tryz.prog 92 #[.agg #[.int .i64 k, .slice A l.length c]] w fun e w' => e = .returned (.bool (heldR k l)) ∧ Below w.heap.size w w' := by
 have hu115 := Tryz.underlying115
 have HB := aS (Below.refl w.heap.size w)
 obtain ⟨n, hn⟩ := (pisType_ev k (Kd.C_max hr)).rounds
 have HI := aS (fun W hb => shape_IsType.calls n k A c l (isTypeR k l) W (Kd.C_below hr hb) hc hn)
 obtain ⟨t, ht⟩ : ∃ t, isTypeR k l = t := ⟨_, rfl⟩
 obtain ⟨rr, hrr⟩ : ∃ rr, heldR k l = rr := ⟨_, rfl⟩
 have HA : Aside0 (rr = (t && !decide (k = 3))) := ⟨by rw [← hrr, ← ht]; rfl⟩
 rw [hrr]
 rw [ht] at HI
 clear hr hc hn hrr ht
 have q : (k = 3) = True ∧ (k == 3) = true ∨ (k = 3) = False ∧ (k == 3) = false := by
  by_cases h : k = 3
  ·exact .inl ⟨eq_true h, beq_iff_eq.2 h⟩
  ·exact .inr ⟨eq_false h, beq_eq_false_iff_ne.2 h⟩
 rcases q with ⟨q1, q2⟩ | ⟨q1, q2⟩ <;> cases t
 all_goals go_enter Tryz.func92, Tryz.ntmps92
 all_goals go_wp2_with (first | ((with_reducible refine gate_dst (N := 1) rfl ?_); refine box_event ?hg (N := 1) ?hd (cs := #[.int .i64 k, .slice A l.length c]) (t := 115) ?hr ?_; (case hd => rfl); (case hg => rfl); (case hr => first | (go_simp; done) | (go_simp; rfl)); intro gi hg w1 hbox hb; have BKi := aS hbox; replace HB := aS (bs_ HB.out hb); obtain ⟨x0, x1⟩ := cells2 BKi.out; clear hg hb hbox) | (go_at_call 139; (with_reducible refine (HI.out _ HB.out).mono ?_); rintro e w2 ⟨rfl, hb⟩; replace HB := aS (bs_ HB.out hb); clear hb))
 all_goals refine bodyPost_ret (v := .bool rr) (by rw [HA.out]; simp [results, Tryz.results92, go_sem, q1]) rfl ⟨rfl, by first | exact HB.out | exact pw_below_drewN HB.out _⟩
theorem lit2_calls (k : Int) (A : Option Addr) (c : Nat) (l : List Int) (w : World) (hr : Kd.C (Kd.int .i64) w A l.length l) (hc : l.length ≤ c) :
 Calls Tryz.prog 91 #[.agg #[.int .i64 k, .slice A l.length c]] w fun e w' => e = .returned (.bool (!heldR k l)) ∧ Below w.heap.size w w' := by
 have hu115 := Tryz.underlying115
 have HI := aS (fun W hb => isType_calls k A c l W (Kd.C_below hr hb) hc)
 generalize heldR k l = t at HI ⊢
 clear hr hc
 go_enter Tryz.func91, Tryz.ntmps91
 go_wp2_with (go_at_call 92; (with_reducible refine (HI.out _ (below_alloc (Below.refl _ _) _)).mono ?_); rintro e w1 ⟨rfl, hb⟩)
 refine bodyPost_ret (by simp [results, Tryz.results91, go_sem]) rfl ⟨rfl, bs_ (below_alloc (Below.refl _ _) _) hb⟩
theorem idx2_calls (c : Nat) (A : Option Addr) (ts : List S115) (F : Value) (hF : F = .func (Fn.func 91) #[] #[]) (w : World) (hr0 : Kd.C k115 w A ts.length ts) :
 Calls Tryz.prog 137 #[.slice A ts.length c, F] w fun e w' => ∃ i : Int, e = .returned (.int .i64 i) ∧ (0 ≤ i ↔ ¬ ∀ j < ts.length, heldR (rd_T115 ts (j : Int)).f0 (rd_T115 ts (j : Int)).f1 = true) ∧ Below w.heap.size w w' := by
 subst hF
 have hu115 := Tryz.underlying115
 have HR0 := aS hr0
 have HM := aS (Kd.C_max hr0)
 clear hr0
 go_enter Tryz.func137, Tryz.ntmps137
 go_wp2
 go_loopg [8] (ts.length + 1) (fun kq v8 w' => ∃ j : Nat, v8 = .int .i64 (j : Int) ∧ Aside0 (kq + j = ts.length + 1 ∧ j ≤ ts.length ∧ ∀ i < j, heldR (rd_T115 ts (i : Int)).f0 (rd_T115 ts (i : Int)).f1 = true) ∧ Aside0 (Below w.heap.size w w'))
 case atStart => exact ⟨0, rfl, ⟨rfl, Nat.zero_le _, fun i hi => absurd hi (Nat.not_lt_zero _)⟩, ⟨Below.refl _ _⟩⟩
 case round =>
  obtain ⟨j, rfl, HJ, HW⟩ := hrel
  by_cases hj : j < ts.length; rotate_left
  ·have q1 : decide ((j : Int) < (ts.length : Int)) = false := dF (by omega)
   have q2 := dF hj
   have q3 : (j < ts.length) = False := eq_false hj
   have q5 : ((j : Int) < (ts.length : Int)) = False := eq_false (by omega)
   have HA : Aside0 (∀ j < ts.length, heldR (rd_T115 ts (j : Int)).f0 (rd_T115 ts (j : Int)).f1 = true) := ⟨fun i hi => HJ.out.2.2 i (by omega)⟩
   clear hj HJ
   go_wp2
   refine bodyPost_ret (v := .int .i64 (-1)) (by simp [results, Tryz.results137, go_sem]) rfl ⟨-1, rfl, ⟨fun h => absurd h (by decide), fun h => absurd HA.out h⟩, HW.out⟩
  have q1 : decide ((j : Int) < (ts.length : Int)) = true := dT (by omega)
  have q2 := dT hj
  have q3 : (j < ts.length) = True := eq_true hj
  have q4 : (0 ≤ (j : Int)) = True := eq_true (by omega)
  have q5 : ((j : Int) < (ts.length : Int)) = True := eq_true (by omega)
  have q7 : wrap64 ((j : Int) + 1) = ((j + 1 : Nat) : Int) := by have := HM.out; unfold wrap64; omega
  obtain ⟨ad, A1, c1, rfl, y0, y1, l1, g1⟩ := at_T115 (Kd.C_below HR0.out HW.out) (j : Int) (by omega) (by omega)
  rw [Int.toNat_natCast] at y0 y1
  have HJ2 := aS hj
  clear hj
  obtain ⟨x, hx⟩ : ∃ x, rd_T115 ts (j : Int) = x := ⟨_, rfl⟩
  have HX := aS hx
  rw [hx] at y0 y1 l1 g1
  have HL := aS (fun W (hb : Below wr.heap.size wr W) => lit2_calls x.f0 A1 c1 x.f1 W (Kd.C_below g1 hb) l1)
  obtain ⟨t, ht⟩ : ∃ t, heldR x.f0 x.f1 = t := ⟨_, rfl⟩
  have HT := aS ht
  rw [ht] at HL
  clear hx l1 g1 ht
  cases t with
  | false =>
   go_wp2_with (go_at_call 91; (with_reducible refine (HL.out _ (by first | exact Below.refl _ _ | exact pw_below_drewN (Below.refl _ _) _)).mono ?_); rintro e w4 ⟨rfl, hb⟩; replace HW := aS (bs_ HW.out hb); clear hb)
   refine bodyPost_ret (v := .int .i64 (j : Int)) (by simp [results, Tryz.results137, go_sem]) rfl ⟨(j : Int), rfl, ⟨fun _ h => (by have := h j HJ2.out; rw [HX.out, HT.out] at this; cases this), fun _ => by omega⟩, HW.out⟩
  | true =>
   go_wp2_with (go_at_call 91; (with_reducible refine (HL.out _ (by first | exact Below.refl _ _ | exact pw_below_drewN (Below.refl _ _) _)).mono ?_); rintro e w4 ⟨rfl, hb⟩; replace HW := aS (bs_ HW.out hb); clear hb)
   cases gk with
   | zero => exact absurd HJ.out.1 (by have := HJ2.out; omega)
   | succ k3 =>
    go_roundg k3
    case measure => omega
    case rel => exact ⟨j + 1, by first | rfl | rw [q7], ⟨by have := HJ.out.1; omega, by have := HJ2.out; omega, fun i hi => (Nat.lt_succ_iff_lt_or_eq.1 hi).elim (HJ.out.2.2 i) (fun h => by rw [h, HX.out]; exact HT.out)⟩, HW⟩
theorem con2_calls (c : Nat) (A : Option Addr) (ts : List S115) (w : World) (hr0 : Kd.C k115 w A ts.length ts) :
 Calls Tryz.prog 89 #[.slice A ts.length c, .func (Fn.func 91) #[] #[]] w fun e w' => e = .returned (.bool (!decide (∀ j < ts.length, heldR (rd_T115 ts (j : Int)).f0 (rd_T115 ts (j : Int)).f1 = true))) ∧ Below w.heap.size w w' := by
 obtain ⟨d, hd⟩ : ∃ d, decide (∀ j < ts.length, heldR (rd_T115 ts (j : Int)).f0 (rd_T115 ts (j : Int)).f1 = true) = d := ⟨_, rfl⟩
 have HI : Aside0 (Calls Tryz.prog 137 #[.slice A ts.length c, .func (Fn.func 91) #[] #[]] w fun e w' => ∃ i : Int, e = .returned (.int .i64 i) ∧ decide (0 ≤ i) = (!d) ∧ Below w.heap.size w w') :=
  ⟨(idx2_calls c A ts _ rfl w hr0).mono (fun e w' ⟨i, h1, h2, h3⟩ => ⟨i, h1, by
   cases d
   ·rw [dT (h2.2 (of_decide_eq_false hd))]; rfl
   ·rw [dF (fun h => (h2.1 h) (of_decide_eq_true hd))]; rfl, h3⟩)⟩
 rw [hd]
 clear hr0 hd
 go_enter Tryz.func89, Tryz.ntmps89
 go_wp2_with fail
 (with_reducible refine HI.out.mono ?_)
 rintro e w1 ⟨i, rfl, hi, hb⟩
 go_wp2
 refine bodyPost_ret (v := .bool (!d)) (by simp [results, Tryz.results89, go_sem, hi]) rfl ⟨rfl, hb⟩
theorem N_of_own {w : World} {base : Nat} {v : Value} (ho : w.ownsRow base 115 2 v 0 []) : Kd.N k115 115 w base (fun _ => True) v [] := Kd.R_N (show Kd.R k115 115 w base (fun _ => True) v [] from ⟨fun _ _ => trivial, [], ho, Reps.none _ _⟩)
theorem grow_calls (n : Nat) (z : Int) (hz : z = (n : Int)) (hn : n ≤ 200000) (w : World) : Calls Tryz.prog 138 #[.slice none 0 0, .int .i64 z] w fun e w' => ∃ v, e = .returned v ∧ Kd.N k115 115 w' w.heap.size (fun _ => True) v [] ∧ Below w.heap.size w w' := by
 subst hz
 have e1 : wrap64 (n : Int) = (n : Int) := by unfold wrap64; omega
 have e2 : wrap64 ((n : Int) - 0) = (n : Int) := by unfold wrap64; omega
 have k1 : decide ((n : Int) < 0) = false := dF (by omega)
 have k2 : ((n : Int) < 0) = False := eq_false (by omega)
 by_cases h0 : n = 0
 ·subst h0
  go_enter Tryz.func138, Tryz.ntmps138
  go_wp2
  refine bodyPost_ret (by simp [results, Tryz.results138, go_sem]) rfl ⟨_, rfl, Kd.N_nil _ _ _ _ _, Below.refl _ _⟩
 ·obtain ⟨i0, hi, hz0, hz1, hz2⟩ := info_parts info115
  have hr := Lib.run_append_nil_zeros (P := Tryz.prog) w 47 3 47 115 i0 _ .i64 .i64 Tryz.underlying47 Tryz.underlying3 hi hz0 n (by omega) (by rw [hz1]; decide) (by omega) (by rw [hz2]; omega)
  rw [show Value.int IntKind.i64 (n : Int) = Value.int IntKind.i64 (wrap64 (n : Int)) by rw [e1]] at hr
  have k3 : decide (0 < (n : Int)) = true := dT (by omega)
  have k4 : decide (0 < n) = true := dT (by omega)
  have k5 : (0 < n) = True := eq_true (by omega)
  have HZ := aS (And.intro hn h0)
  clear hn h0
  go_enter Tryz.func138, Tryz.ntmps138
  go_wp2_with (at_builtin; refine Lib.wpList_append_run _ rfl _ _ _ _ rfl _ _ rfl rfl _ _ hr ?_)
  refine bodyPost_ret (by simp [results, Tryz.results138, go_sem]) rfl ⟨_, rfl, N_of_own ⟨rfl, .inr ⟨w.heap.size, grownCap w n 0 115, _, rfl, Nat.le_refl _, heap_alloc_new w _, Nat.zero_le _, grownCap_le_maxLen w n 0 115 (by have := HZ.out; unfold maxLen; omega), ?_, rfl⟩⟩, (below_alloc (Below.refl _ _) _).drew⟩
  have hge := grownCap_ge w n 0 115
  simp only [Array.size_append, size_zeroCells, List.size_toArray, List.length_cons, List.length_nil]
  omega
theorem cat_calls (g c c1 c2 : Nat) (A1 A2 : Option Addr) (f1 f2 : List S115) (w0 w : World) (hW : Below w0.heap.size w0 w) (h1 : f1.length ≤ 100000) (h2 : f2.length ≤ 100000) (g1 : Kd.C k115 w0 A1 f1.length f1) (g2 : Kd.C k115 w0 A2 f2.length f2)
 (hs0 : w.cell? ⟨g, 0, none⟩ = some (.slice A1 f1.length c1)) (hs1 : w.cell? ⟨g, 1, none⟩ = some (.slice A2 f2.length c2)) :
 Calls Tryz.prog 90 #[.slice (some ⟨g, 0, none⟩) 2 c] w fun e w' => ∃ v, e = .returned v ∧ Kd.N k115 115 w' w.heap.size (fun _ => True) v (f1 ++ f2) ∧ Below w.heap.size w w' := by
 have e1 : wrap64 (f1.length : Int) = (f1.length : Int) := by unfold wrap64; omega
 have e2 : wrap64 ((f1.length : Int) + (f2.length : Int)) = ((f1.length + f2.length : Nat) : Int) := by unfold wrap64; omega
 have k1 : decide ((f1.length : Int) < 0) = false := dF (by omega)
 have k2 : ((f1.length : Int) < 0) = False := eq_false (by omega)
 have k3 : decide (((f1.length + f2.length : Nat) : Int) < 0) = false := dF (by omega)
 have k4 : (((f1.length + f2.length : Nat) : Int) < 0) = False := eq_false (by omega)
 have k5 : ((f1.length : Int) + (f2.length : Int) < 0) = False := eq_false (by omega)
 have HZ := aS (And.intro h1 h2)
 have HW := aS hW
 have HG := aS (And.intro g1 g2)
 clear h1 h2 g1 g2 hW
 go_enter Tryz.func90, Tryz.ntmps90
 go_wp2_with fail
 refine wp_loop_rounds 3 ?_
 repeat (rw [rounds_succ]; go_wp2_with fail)
 refine (grow_calls (f1.length + f2.length) _ ?hz (by have := HZ.out; omega) _).mono ?_
 case hz => exact (Int.natCast_add _ _).symm
 rintro e w1 ⟨va, rfl, hN, hb⟩
 have HNa := aS hN
 have HBa := aS hb
 have s0 := pw_cell_below hb hs0
 have s1 := pw_cell_below hb hs1
 have HS1 := aS hs1
 clear hN hb hs0 hs1
 go_wp2
 refine wp_loop_rounds 3 ?_
 rw [rounds_succ]
 go_wp2_with (at_builtin; refine Kd.N_append_rows k115 (w0 := w) w.heap.size rfl _ _ 47 115 (.agg #[(.int .i64 0), (.slice none 0 0)]) 32 rfl Tryz.underlying47 info115 rfl (by decide) (by decide) va [] f1 A1 f1.length c1 (fun _ => True) (fun k => k < w0.heap.size) rfl rfl HNa.out ?hF ?hokp (fun _ _ => trivial) HBa.out HBa.out.size ?hl ?_)
 case hF => exact fun _ hW => k115_heap.C (fun k hlt => (hW k hlt (by have h8 := HW.out.size; have h9 := HBa.out.size; omega)).trans ((HBa.out.block k (Nat.lt_of_lt_of_le hlt HW.out.size)).trans (HW.out.block k hlt))) HG.out.1
 case hokp => exact fun k hk => ⟨trivial, fun e => by have := Kd.N_base HNa.out k e.symm; have h8 := HW.out.size; omega⟩
 case hl => have := HZ.out; simp only [List.length_nil]; omega
 intro vb w2 hN hb hg hat
 have HNb := aS hN
 have HBb := aS hb
 have s2 := pw_cell_below hb HS1.out
 clear hN hb hg hat s0 s1
 go_wp2
 rw [rounds_succ]
 go_wp2_with (at_builtin; refine Kd.N_append_rows k115 (w0 := w) w.heap.size rfl _ _ 47 115 (.agg #[(.int .i64 0), (.slice none 0 0)]) 32 rfl Tryz.underlying47 info115 rfl (by decide) (by decide) vb f1 f2 A2 f2.length c2 (fun _ => True) (fun k => k < w0.heap.size) rfl rfl HNb.out ?hF ?hokp (fun _ _ => trivial) HBb.out HBb.out.size ?hl ?_)
 case hF => exact fun _ hW => k115_heap.C (fun k hlt => (hW k hlt (by have h8 := HW.out.size; have h9 := HBb.out.size; omega)).trans ((HBb.out.block k (Nat.lt_of_lt_of_le hlt HW.out.size)).trans (HW.out.block k hlt))) HG.out.2
 case hokp => exact fun k hk => ⟨trivial, fun e => by have := Kd.N_base HNb.out k e.symm; have h8 := HW.out.size; omega⟩
 case hl => have := HZ.out; omega
 intro vc w3 hN hb hg hat
 have HNc := aS hN
 have HBc := aS hb
 clear hN hb hg hat s2
 go_wp2
 rw [rounds_succ]
 go_wp2
 refine bodyPost_ret (by simp [results, Tryz.results90, go_sem]) rfl ⟨_, rfl, HNc.out, HBc.out⟩
end Go.Proofs.YtbkknoipgmlcmaaGreatDoor.P

namespace Go.Proofs.YtbkknoipgmlcmaaGreatDoor.P
open Go.RowKit Go.Proofs.YtbkknoipgmlcmaaGreatDoorW.PrintWords Go.Proofs.YtbkknoipgmlcmaaGreatDoorW.PrintLast Go.Proofs.YtbkknoipgmlcmaaGreatDoorW.PrintMore
open Go.Proofs.FX
attribute [local go_sem] max2_int min2_int max_two min_two
theorem head_calls (A0 : Option Addr) (c0 m : Nat) (l0 : List S50) (w : World) (hr0 : Kd.C k50 w A0 l0.length l0) (hc0 : l0.length ≤ c0) (hm : m < l0.length) (hs : (rd_T50 l0 (m : Int)).f0.size ≤ 100000) (h1 : (rd_T50 l0 (m : Int)).f1.length ≤ 100000) (h2 : (rd_T50 l0 (m : Int)).f2.length ≤ 100000) :
    Calls Tryz.prog 31 #[.slice A0 l0.length c0, .int .i64 (m : Int)] w fun e w' => e = .returned (.int .i64 (headS l0 m)) ∧ Below w.heap.size w w' := by
  have hu50 := Tryz.underlying50
  have hu115 := Tryz.underlying115
  have HR0 := aS hr0
  have HZ := aS (show m < l0.length ∧ (rd_T50 l0 (m : Int)).f0.size ≤ 100000 ∧ (rd_T50 l0 (m : Int)).f1.length ≤ 100000 ∧ (rd_T50 l0 (m : Int)).f2.length ≤ 100000 ∧ l0.length ≤ 9223372036854775807 from ⟨hm, hs, h1, h2, Kd.C_max hr0⟩)
  have fa1 : (0 ≤ (m : Int)) = True := eq_true (by omega)
  have fa2 : ((m : Int) < (l0.length : Int)) = True := eq_true (by omega)
  have fa3 : (m < l0.length) = True := eq_true hm
  have fa4 : ((m : Int) ≤ (c0 : Int)) = True := eq_true (by omega)
  have fa5 : (m ≤ c0) = True := eq_true (by omega)
  obtain ⟨ad, R1, k1, R2, k2, R4, k4, eA, x0, x1, x2, x3, x4, l1, g1, l2, g2, l4, g4⟩ := at_T50 hr0 (m : Int) (by omega) (by omega)
  subst eA
  rw [Int.toNat_natCast] at x0 x1 x2 x3 x4
  have HG := aS (And.intro g1 (And.intro g2 (And.intro l1 l2)))
  clear hr0 hc0 hm hs h1 h2 l1 g1 l2 g2 l4 g4
  obtain ⟨rr, hrr⟩ : ∃ rr, headS l0 m = rr := ⟨_, rfl⟩
  rw [hrr]
  have HH := aS hrr
  clear hrr
  obtain ⟨r, hr⟩ : ∃ r, rd_T50 l0 (m : Int) = r := ⟨_, rfl⟩
  have HRD := aS hr
  rw [hr] at x0 x1 x2 x3 x4 HG HZ
  clear hr
  go_enter Tryz.func31, Tryz.ntmps31
  go_upto_region 2 with fail
  refine at_world (fun W => Below w.heap.size w W ∧ W.heap[w.heap.size]? = some (.cells #[.string r.f0, .slice R1 r.f1.length k1, .slice R2 r.f2.length k2, .int .i64 r.f3, .slice R4 r.f4.length k4] 50 (0, 0))) ⟨below_alloc (Below.refl _ _) _, blk_new _ _⟩ ?_
  clear x0 x1 x2 x3 x4
  rintro w1 ⟨hB, hR⟩
  have HB := aS hB
  have BR := aS hR
  clear hB hR
  obtain ⟨r0, r1, r2, r3, r4⟩ := cells5 BR.out
  obtain ⟨t1, ht1⟩ : ∃ t, nameR r.f0 = t := ⟨_, rfl⟩
  have HT1 := aS ht1
  clear ht1
  cases t1 with
  | false =>
    have HA : Aside0 (rr = 13) := ⟨by rw [← HH.out]; unfold headS; rw [HRD.out, HT1.out, if_pos rfl]⟩
    go_wp2_with (go_at_call 86; (with_reducible refine (isName_calls r.f0 _ (by have := HZ.out; omega)).mono ?_); rw [HT1.out]; rintro e w2 ⟨rfl, hb⟩; replace HB := aS (bs_ HB.out hb); clear hb)
    refine bodyPost_ret (v := .int .i64 13) (by simp [results, Tryz.results31, go_sem]) rfl ⟨by rw [HA.out], HB.out⟩
  | true =>
    obtain ⟨d2, hd2⟩ : ∃ d, decide (∀ i < m, (rd_T50 l0 (i : Int)).f0.toList ≠ r.f0.toList) = d := ⟨_, rfl⟩
    have HD2 := aS hd2
    have HCN := aS (fun W (hb : Below w.heap.size w W) hblk => con1_calls w.heap.size c0 m ad l0 r.f0 R1 R2 R4 r.f1.length k1 r.f2.length k2 r.f4.length k4 r.f3 W (Kd.C_below HR0.out hb) (by have := HZ.out; omega) hblk)
    rw [hd2] at HCN
    clear hd2
    cases d2 with
    | false =>
      have HA : Aside0 (rr = 7) := ⟨by rw [← HH.out]; unfold headS; rw [HRD.out, HT1.out, if_neg (by decide), if_pos HD2.out]⟩
      go_wp2_with (first | (go_at_call 86; (with_reducible refine (isName_calls r.f0 _ (by have := HZ.out; omega)).mono ?_); rw [HT1.out]; rintro e w2 ⟨rfl, hb⟩; replace HB := aS (bs_ HB.out hb); replace BR := aS (blk_below BR.out hb); clear hb r0 r1 r2 r3 r4) | (go_at_call 87; (with_reducible refine (HCN.out _ HB.out BR.out).mono ?_); rintro e w3 ⟨rfl, hb⟩; replace HB := aS (bs_ HB.out hb); clear hb))
      refine bodyPost_ret (v := .int .i64 7) (by simp [results, Tryz.results31, go_sem]) rfl ⟨by rw [HA.out], HB.out⟩
    | true =>
      go_wp2_with (first | (go_at_call 86; (with_reducible refine (isName_calls r.f0 _ (by have := HZ.out; omega)).mono ?_); rw [HT1.out]; rintro e w2 ⟨rfl, hb⟩; replace HB := aS (bs_ HB.out hb); replace BR := aS (blk_below BR.out hb); clear hb r0 r1 r2 r3 r4) | (go_at_call 87; (with_reducible refine (HCN.out _ HB.out BR.out).mono ?_); rintro e w3 ⟨rfl, hb⟩; replace HB := aS (bs_ HB.out hb); replace BR := aS (blk_below BR.out hb); clear hb; obtain ⟨r0, r1, r2, r3, r4⟩ := cells5 BR.out))
      have HBn := aS (below_alloc HB.out (.cells #[.slice R1 r.f1.length k1, .slice R2 r.f2.length k2] 47))
      have BRn := aS (blk_alloc BR.out (.cells #[.slice R1 r.f1.length k1, .slice R2 r.f2.length k2] 47))
      refine (cat_calls _ 2 k1 k2 R1 R2 r.f1 r.f2 w _ HBn.out HZ.out.2.2.1 HZ.out.2.2.2.1 HG.out.1 HG.out.2.1 ((blk_cell (blk_new w3 _) 0).trans rfl) ((blk_cell (blk_new w3 _) 1).trans rfl)).mono ?_
      rintro e w4 ⟨v, rfl, hN, hb⟩
      obtain ⟨Ac, cc, rfl⟩ := Kd.N_slice hN
      have HC := aS (Kd.N_reads' hN).2.2
      replace HB := aS (bs_ HBn.out hb)
      replace BR := aS (blk_below BRn.out hb)
      clear hN hb HBn BRn r0 r1 r2 r3 r4
      obtain ⟨d3, hd3⟩ : ∃ d, decide (∀ i < (r.f1 ++ r.f2).length, heldR (rd_T115 (r.f1 ++ r.f2) (i : Int)).f0 (rd_T115 (r.f1 ++ r.f2) (i : Int)).f1 = true) = d := ⟨_, rfl⟩
      have HD3 := aS hd3
      have HCT := aS (con2_calls cc Ac (r.f1 ++ r.f2) w4 HC.out)
      rw [hd3, List.length_append] at HCT
      clear hd3
      obtain ⟨r0, r1, r2, r3, r4⟩ := cells5 BR.out
      cases d3 with
      | false =>
        have HA : Aside0 (rr = 12) := ⟨by rw [← HH.out]; unfold headS; rw [HRD.out, HT1.out, if_neg (by decide), if_neg (by rw [HD2.out]; decide), if_pos HD3.out]⟩
        go_wp2_with (go_at_call 89; (with_reducible refine HCT.out.mono ?_); rintro e w5 ⟨rfl, hb⟩; replace HB := aS (bs_ HB.out hb); clear hb)
        refine bodyPost_ret (v := .int .i64 12) (by simp [results, Tryz.results31, go_sem]) rfl ⟨by rw [HA.out], HB.out⟩
      | true =>
        have HA : Aside0 (rr = if limR r = true then 3 else 0) := ⟨by rw [← HH.out]; unfold headS; rw [HRD.out, HT1.out, if_neg (by decide), if_neg (by rw [HD2.out]; decide), if_neg (by rw [HD3.out]; decide)]⟩
        go_wp2_with (go_at_call 89; (with_reducible refine HCT.out.mono ?_); rintro e w5 ⟨rfl, hb⟩; replace HB := aS (bs_ HB.out hb); replace BR := aS (blk_below BR.out hb); clear hb r0 r1 r2 r3 r4; obtain ⟨r0, r1, r2, r3, r4⟩ := cells5 BR.out)
        all_goals first
          | (have hl : limR r = true := by
               unfold limR; simp only [Bool.or_eq_true, decide_eq_true_eq]; omega
             refine bodyPost_ret (v := .int .i64 3) (by simp [results, Tryz.results31, go_sem]) rfl ⟨by rw [HA.out, if_pos hl], HB.out⟩)
          | (have hl : limR r = false := by
               unfold limR; simp only [Bool.or_eq_false_iff, decide_eq_false_iff_not]; omega
             refine bodyPost_ret (v := .int .i64 0) (by simp [results, Tryz.results31, go_sem]) rfl ⟨by rw [HA.out, if_neg (by rw [hl]; decide)], HB.out⟩)
          | trace_state
def code_head.f (l : List S50) (a1 : Int) : Option Int := headF l a1
theorem code_head.calls (A0 : Option Addr) (c0 : Nat) (l0 : List S50) (a1 : Int) (r : Int) (w : World) (hG : GW w) (hr0 : Kd.C k50 w A0 l0.length l0) (hc0 : l0.length ≤ c0) (h : code_head.f l0 a1 = some r) :
 Calls Tryz.prog 31 #[.slice A0 l0.length c0, .int .i64 a1] w fun e w' => e = .returned (.int .i64 r) ∧ Below w.heap.size w w' := by
 unfold code_head.f headF at h
 by_cases hat : 0 ≤ a1 ∧ a1 < (l0.length : Int) ∧ smallB (rd_T50 l0 a1) = true
 ·rw [if_pos hat] at h
  obtain rfl := sI h
  obtain ⟨m, rfl⟩ := Int.eq_ofNat_of_zero_le hat.1
  have hs := smallB_iff.1 hat.2.2
  exact head_calls A0 c0 m l0 w hr0 hc0 (by have := hat.2.1; omega) hs.1 hs.2.1 hs.2.2
 ·rw [if_neg hat] at h
  cases h
end Go.Proofs.YtbkknoipgmlcmaaGreatDoor.P

namespace Go.Proofs.YtbkknoipgmlcmaaGreatDoor.P
open Go.RowKit Go.Proofs.YtbkknoipgmlcmaaGreatDoorW.PrintWords Go.Proofs.YtbkknoipgmlcmaaGreatDoorW.PrintLast Go.Proofs.YtbkknoipgmlcmaaGreatDoorW.PrintMore
open Go.Proofs.FX
theorem of_at (n : Int) (h1 : 1 ≤ n) (h2 : n < 27) (r1 : ByteArray) (r2 r3 r4 : Int) (r5 : Bool) (r6 r7 : Int) (w : World)
 (g0 : ∀ o, (w.alloc o).cell? ⟨0, n.toNat * 7, none⟩ = some (.string r1)) (g1 : ∀ o, (w.alloc o).cell? ⟨0, n.toNat * 7 + 1, none⟩ = some (.int .i64 r2)) (g2 : ∀ o, (w.alloc o).cell? ⟨0, n.toNat * 7 + 2, none⟩ = some (.int .i64 r3))
 (g3 : ∀ o, (w.alloc o).cell? ⟨0, n.toNat * 7 + 3, none⟩ = some (.int .i64 r4)) (g4 : ∀ o, (w.alloc o).cell? ⟨0, n.toNat * 7 + 4, none⟩ = some (.bool r5)) (g5 : ∀ o, (w.alloc o).cell? ⟨0, n.toNat * 7 + 5, none⟩ = some (.int .i64 r6)) (g6 : ∀ o, (w.alloc o).cell? ⟨0, n.toNat * 7 + 6, none⟩ = some (.int .i64 r7)) :
 Calls Tryz.prog 41 #[.int .i64 n] w fun e w' => e = .returned (.tuple #[.agg #[.string r1, .int .i64 r2, .int .i64 r3, .int .i64 r4, .bool r5, .int .i64 r6, .int .i64 r7], .bool true]) ∧ Below w.heap.size w w' := by
 have hu72 := Tryz.underlying72
 have c1 : decide (n < 1) = false := decide_eq_false (by omega)
 have c2 : decide (n ≥ 27) = false := decide_eq_false (by omega)
 have c3 : (0 ≤ n) = True := eq_true (by omega)
 have c4 : (n < 27) = True := eq_true h2
 clear h1 h2
 go_enter Tryz.func41, Tryz.ntmps41
 go_wp2
 refine bodyPost_ret (by simp [results, Tryz.results41, go_sem]) rfl ⟨rfl, ?_⟩
 exact below_alloc (Below.refl _ _) _
def sortsL : List (ByteArray × Int × Int × Int × Bool × Int × Int) := [(⟨#[]⟩, 0, 0, 0, false, 0, 0), (⟨#[110, 117, 109]⟩, 1, 0, 0, true, 0, 0), (⟨#[98, 105, 116]⟩, 1, 3, 0, false, 0, 1), (⟨#[99, 111, 117, 110, 116]⟩, 1, 3, 0, false, -1, 8), (⟨#[99, 111, 112, 121]⟩, 1, 1, 0, false, 0, 0), (⟨#[97, 100, 100]⟩, 1, 1, 1, false, 0, 0), (⟨#[115, 117, 98]⟩, 1, 1, 1, false, 0, 0), (⟨#[110, 101, 103]⟩, 1, 1, 0, false, 0, 0), (⟨#[109, 117, 108]⟩, 1, 1, 1, false, 0, 0), (⟨#[100, 105, 118]⟩, 1, 1, 1, false, 0, 0), (⟨#[108, 101, 115, 115]⟩, 1, 1, 1, false, 0, 0), (⟨#[115, 97, 109, 101]⟩, 1, 1, 1, false, 0, 0), (⟨#[97, 110, 100]⟩, 1, 1, 1, false, 0, 0), (⟨#[111, 114]⟩, 1, 1, 1, false, 0, 0), (⟨#[110, 111, 116]⟩, 1, 1, 0, false, 0, 0), (⟨#[116, 111, 110, 117, 109]⟩, 1, 1, 0, false, 0, 0), (⟨#[110, 101, 119]⟩, 1, 3, 0, false, 1, 8), (⟨#[108, 111, 97, 100]⟩, 1, 1, 1, false, 0, 0), (⟨#[115, 116, 111, 114, 101]⟩, 1, 1, 1, false, 0, 0), (⟨#[115, 116, 101, 112]⟩, 1, 3, 0, false, -1, 1), (⟨#[106, 117, 109, 112]⟩, 2, 0, 0, false, 0, 0), (⟨#[117, 110, 116, 105, 108]⟩, 2, 1, 3, false, -1, 8), (⟨#[116, 101, 115, 116]⟩, 1, 2, 2, false, 0, 0), (⟨#[115, 112, 111, 105, 108]⟩, 1, 1, 0, false, 0, 0), (⟨#[98, 108, 111, 116]⟩, 1, 1, 0, false, 0, 0), (⟨#[99, 97, 108, 108]⟩, 7, 4, 5, false, 0, 0), (⟨#[114, 101, 116, 117, 114, 110]⟩, 6, 0, 0, false, 0, 0)]
def code_of.f (n : Int) : Option (ByteArray × Int × Int × Int × Bool × Int × Int × Bool) :=
 if 1 ≤ n ∧ n < 27 then (match sortsL[n.toNat]? with | some t => some (t.1, t.2.1, t.2.2.1, t.2.2.2.1, t.2.2.2.2.1, t.2.2.2.2.2.1, t.2.2.2.2.2.2, true) | none => none) else some (⟨#[]⟩, 0, 0, 0, false, 0, 0, false)
theorem sort_cells : ∀ k : Nat, k < 27 → ∃ t, sortsL[k]? = some t ∧ sortsC[k * 7]? = some (.string t.1) ∧ sortsC[k * 7 + 1]? = some (.int .i64 t.2.1) ∧ sortsC[k * 7 + 2]? = some (.int .i64 t.2.2.1) ∧ sortsC[k * 7 + 3]? = some (.int .i64 t.2.2.2.1) ∧
 sortsC[k * 7 + 4]? = some (.bool t.2.2.2.2.1) ∧ sortsC[k * 7 + 5]? = some (.int .i64 t.2.2.2.2.2.1) ∧ sortsC[k * 7 + 6]? = some (.int .i64 t.2.2.2.2.2.2)
 | 0, _ => ⟨_, rfl, rfl, rfl, rfl, rfl, rfl, rfl, rfl⟩
 | 1, _ => ⟨_, rfl, rfl, rfl, rfl, rfl, rfl, rfl, rfl⟩
 | 2, _ => ⟨_, rfl, rfl, rfl, rfl, rfl, rfl, rfl, rfl⟩
 | 3, _ => ⟨_, rfl, rfl, rfl, rfl, rfl, rfl, rfl, rfl⟩
 | 4, _ => ⟨_, rfl, rfl, rfl, rfl, rfl, rfl, rfl, rfl⟩
 | 5, _ => ⟨_, rfl, rfl, rfl, rfl, rfl, rfl, rfl, rfl⟩
 | 6, _ => ⟨_, rfl, rfl, rfl, rfl, rfl, rfl, rfl, rfl⟩
 | 7, _ => ⟨_, rfl, rfl, rfl, rfl, rfl, rfl, rfl, rfl⟩
 | 8, _ => ⟨_, rfl, rfl, rfl, rfl, rfl, rfl, rfl, rfl⟩
 | 9, _ => ⟨_, rfl, rfl, rfl, rfl, rfl, rfl, rfl, rfl⟩
 | 10, _ => ⟨_, rfl, rfl, rfl, rfl, rfl, rfl, rfl, rfl⟩
 | 11, _ => ⟨_, rfl, rfl, rfl, rfl, rfl, rfl, rfl, rfl⟩
 | 12, _ => ⟨_, rfl, rfl, rfl, rfl, rfl, rfl, rfl, rfl⟩
 | 13, _ => ⟨_, rfl, rfl, rfl, rfl, rfl, rfl, rfl, rfl⟩
 | 14, _ => ⟨_, rfl, rfl, rfl, rfl, rfl, rfl, rfl, rfl⟩
 | 15, _ => ⟨_, rfl, rfl, rfl, rfl, rfl, rfl, rfl, rfl⟩
 | 16, _ => ⟨_, rfl, rfl, rfl, rfl, rfl, rfl, rfl, rfl⟩
 | 17, _ => ⟨_, rfl, rfl, rfl, rfl, rfl, rfl, rfl, rfl⟩
 | 18, _ => ⟨_, rfl, rfl, rfl, rfl, rfl, rfl, rfl, rfl⟩
 | 19, _ => ⟨_, rfl, rfl, rfl, rfl, rfl, rfl, rfl, rfl⟩
 | 20, _ => ⟨_, rfl, rfl, rfl, rfl, rfl, rfl, rfl, rfl⟩
 | 21, _ => ⟨_, rfl, rfl, rfl, rfl, rfl, rfl, rfl, rfl⟩
 | 22, _ => ⟨_, rfl, rfl, rfl, rfl, rfl, rfl, rfl, rfl⟩
 | 23, _ => ⟨_, rfl, rfl, rfl, rfl, rfl, rfl, rfl, rfl⟩
 | 24, _ => ⟨_, rfl, rfl, rfl, rfl, rfl, rfl, rfl, rfl⟩
 | 25, _ => ⟨_, rfl, rfl, rfl, rfl, rfl, rfl, rfl, rfl⟩
 | 26, _ => ⟨_, rfl, rfl, rfl, rfl, rfl, rfl, rfl, rfl⟩
 | k + 27, h => absurd h (by omega)
theorem of_out (n : Int) (h : ¬ (1 ≤ n ∧ n < 27)) (w : World) : Calls Tryz.prog 41 #[.int .i64 n] w fun e w' => e = .returned (.tuple #[.agg #[.string ⟨#[]⟩, .int .i64 0, .int .i64 0, .int .i64 0, .bool false, .int .i64 0, .int .i64 0], .bool false]) ∧ Below w.heap.size w w' := by
 have hu72 := Tryz.underlying72
 by_cases h1 : n < 1
 ·have c1 : decide (n < 1) = true := decide_eq_true h1
  clear h h1
  go_enter Tryz.func41, Tryz.ntmps41
  go_wp2
  refine bodyPost_ret (by simp [results, Tryz.results41, go_sem]) rfl ⟨rfl, ?_⟩
  exact below_alloc (Below.refl _ _) _
 ·have c1 : decide (n < 1) = false := decide_eq_false h1
  have c2 : decide (n ≥ 27) = true := decide_eq_true (by omega)
  clear h h1
  go_enter Tryz.func41, Tryz.ntmps41
  go_wp2
  refine bodyPost_ret (by simp [results, Tryz.results41, go_sem]) rfl ⟨rfl, ?_⟩
  exact below_alloc (Below.refl _ _) _
theorem code_of.calls (a0 : Int) (r1 : ByteArray) (r2 r3 r4 : Int) (r5 : Bool) (r6 r7 : Int) (r8 : Bool) (w : World) (hG : GW w) (h : code_of.f a0 = some (r1, r2, r3, r4, r5, r6, r7, r8)) :
 Calls Tryz.prog 41 #[.int .i64 a0] w fun e w' => e = .returned (.tuple #[.agg #[.string r1, .int .i64 r2, .int .i64 r3, .int .i64 r4, .bool r5, .int .i64 r6, .int .i64 r7], .bool r8]) ∧ Below w.heap.size w w' := by
 unfold code_of.f at h
 by_cases hr : 1 ≤ a0 ∧ a0 < 27
 ·rw [if_pos hr] at h
  obtain ⟨t, ht, e0, e1, e2, e3, e4, e5, e6⟩ := sort_cells a0.toNat (by omega)
  rw [ht] at h
  obtain ⟨t1, t2, t3, t4, t5, t6, t7⟩ := t
  simp only [Option.some.injEq, Prod.mk.injEq] at h
  obtain ⟨rfl, rfl, rfl, rfl, rfl, rfl, rfl, rfl⟩ := h
  have up : ∀ (i : Nat) (v : Value), sortsC[i]? = some v → ∀ o, (w.alloc o).cell? ⟨0, i, none⟩ = some v := fun i v e o => pw_cell_below (below_alloc (Below.refl _ _) o) (hG.g0 i v e)
  exact of_at a0 hr.1 hr.2 _ _ _ _ _ _ _ w (up _ _ e0) (up _ _ e1) (up _ _ e2) (up _ _ e3) (up _ _ e4) (up _ _ e5) (up _ _ e6)
 ·rw [if_neg hr] at h
  simp only [Option.some.injEq, Prod.mk.injEq] at h
  obtain ⟨rfl, rfl, rfl, rfl, rfl, rfl, rfl, rfl⟩ := h
  exact of_out a0 hr w
end Go.Proofs.YtbkknoipgmlcmaaGreatDoor.P

