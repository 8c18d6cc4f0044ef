import Derived.Test.YtbkknoipgmlcmaaGreatDoorQGM15
set_option linter.all false
set_option maxHeartbeats 8000000
set_option maxRecDepth 100000
namespace Go.Proofs.QP
open Go.RowKit Go.Proofs.PW Go.Proofs.PL Go.Proofs.PM Go.Proofs.FX
section
section
attribute [local go_sem] Instr.index
def okF (u n op lo hi : Int) : Bool := if u = 0 then decide (n = 0) else if u = 3 then (if n < lo then false else if n > hi then false else if op = 19 then !decide (n = 0) else true) else true
theorem z5I (u n op lo hi : Int) :
 ((u == 0) = true ∧ (n == 0) = true ∧ (u == 3) = false ∧ True ∧ True ∧ True ∧ okF u n op lo hi = true) ∨ ((u == 0) = true ∧ (n == 0) = false ∧ (u == 3) = false ∧ True ∧ True ∧ True ∧ okF u n op lo hi = false) ∨
 ((u == 0) = false ∧ True ∧ (u == 3) = true ∧ decide (n < lo) = true ∧ True ∧ True ∧ okF u n op lo hi = false) ∨ ((u == 0) = false ∧ True ∧ (u == 3) = true ∧ decide (n < lo) = false ∧ decide (n > hi) = true ∧ True ∧ okF u n op lo hi = false) ∨
 ((u == 0) = false ∧ (n == 0) = true ∧ (u == 3) = true ∧ decide (n < lo) = false ∧ decide (n > hi) = false ∧ (op == 19) = true ∧ okF u n op lo hi = false) ∨ ((u == 0) = false ∧ (n == 0) = false ∧ (u == 3) = true ∧ decide (n < lo) = false ∧ decide (n > hi) = false ∧ (op == 19) = true ∧ okF u n op lo hi = true) ∨
 ((u == 0) = false ∧ True ∧ (u == 3) = true ∧ decide (n < lo) = false ∧ decide (n > hi) = false ∧ (op == 19) = false ∧ okF u n op lo hi = true) ∨ ((u == 0) = false ∧ True ∧ (u == 3) = false ∧ True ∧ True ∧ True ∧ okF u n op lo hi = true) := by
 have e : ∀ a b : Int, (a == b) = decide (a = b) := fun a b => rfl
 simp only [e]
 unfold okF
 by_cases h1 : u = 0
 ·have h3 : ¬ u = 3 := by omega
  by_cases h2 : n = 0 <;> simp [h1, h2]
 by_cases h3 : u = 3
 ·by_cases h4 : n < lo
  ·simp [h3, h4]
  ·by_cases h5 : n > hi
   ·simp [h3, h4, h5]
   ·by_cases h6 : op = 19
    ·by_cases h2 : n = 0
     ·subst h2; simp [h3, h4, h5, h6]
     ·simp [h3, h4, h5, h6, h2]
    ·simp [h3, h4, h5, h6]
 ·simp [h1, h3]
def fF (i0 i1 i2 i3 s1 s2 s3 s5 s6 : Int) : Nat → Bool
 | 0 => okF s1 i1 i0 s5 s6 && (okF s2 i2 i0 s5 s6 && okF s3 i3 i0 s5 s6)
 | 1 => okF s2 i2 i0 s5 s6 && okF s3 i3 i0 s5 s6
 | 2 => okF s3 i3 i0 s5 s6
 | _ => true
def z2B (i4 : Int) (i5 : Bool) (i6 i7 : List Int) : Bool := decide (i4 = 0) && (!i5 && (i6.isEmpty && i7.isEmpty))
def dgB (l : List Int) : Bool := decide (l.length ≤ 1000) && l.all (fun d => decide (0 ≤ d ∧ d < 4294967296))
theorem z2O {l : List Int} : dgB l = true ↔ l.length ≤ 1000 ∧ dOk l := by
 unfold dgB dOk
 rw [Bool.and_eq_true, decide_eq_true_eq, List.all_eq_true]
 simp only [decide_eq_true_eq]
theorem za9 (i4 : Int) (i5 : Bool) {i6 i7 : List Int} (b6 : i6.length ≤ 1000) (b7 : i7.length ≤ 1000) : z0T.f i4 i5 i6 i7 = some (z2B i4 i5 i6 i7) := by
 unfold z0T.f z2B
 by_cases h0 : i4 = 0
 ·rw [if_pos h0, dT h0]
  cases i5 with
  | true => rfl
  | false =>
   rw [if_neg Bool.false_ne_true, d64 (by omega) (by omega)]
   congr 1
   cases i6 with
   | nil => cases i7 with
    | nil => rfl
    | cons b l7 => show ((((0 : Nat) : Int) + ((b :: l7).length : Int)) == 0) = false; rw [beq_eq_false_iff_ne]; simp only [List.length_cons]; omega
   | cons a l6 => show ((((a :: l6).length : Int) + (i7.length : Int)) == 0) = false; rw [beq_eq_false_iff_ne]; simp only [List.length_cons]; omega
 ·rw [if_neg h0, dF h0]
  rfl
def z0m.f (i0 i1 i2 i3 i4 : Int) (i5 : Bool) (i6 i7 : List Int) (s0 : ByteArray) (s1 s2 s3 : Int) (s4 : Bool) (s5 s6 : Int) : Option Bool :=
 if dgB i6 = true ∧ dgB i7 = true then some ((if s4 = true then decide (i4 = 0) && z5m i4 i5 i6 i7 else z2B i4 i5 i6 i7) && fF i0 i1 i2 i3 s1 s2 s3 s5 s6 0) else none
theorem z0m.calls (i0 i1 i2 i3 i4 : Int) (i5 : Bool) (A6 : Option Addr) (c6 : Nat) (i6 : List Int) (A7 : Option Addr) (c7 : Nat) (i7 : List Int) (s0 : ByteArray) (s1 s2 s3 : Int) (s4 : Bool) (s5 s6 : Int) (r : Bool) (w : World) (hG : GW w) (hr6 : Kd.C (Kd.int .u32) w A6 i6.length i6) (hc6 : i6.length ≤ c6) (hr7 : Kd.C (Kd.int .u32) w A7 i7.length i7) (hc7 : i7.length ≤ c7) (h : z0m.f i0 i1 i2 i3 i4 i5 i6 i7 s0 s1 s2 s3 s4 s5 s6 = some r) :
 Calls Tryz.prog 93 #[.agg #[.int .i64 i0, .int .i64 i1, .int .i64 i2, .int .i64 i3, .int .i64 i4, .bool i5, .slice A6 i6.length c6, .slice A7 i7.length c7], .agg #[.string s0, .int .i64 s1, .int .i64 s2, .int .i64 s3, .bool s4, .int .i64 s5, .int .i64 s6]] w fun e w' => e = .returned (.bool r) ∧ Below w.heap.size w w' := by
 have hu63 := Tryz.underlying63
 have hu72 := Tryz.underlying72
 have hu61 := Tryz.underlying61
 have hu75 := Tryz.underlying75
 have hu78 := Tryz.underlying78
 have hu77 := Tryz.underlying77
 have hu70 := Tryz.underlying70
 have HB := hR w
 have HR6 := aS hr6
 have HR7 := aS hr7
 have HC := aS (And.intro hc6 hc7)
 unfold z0m.f at h
 by_cases hd : dgB i6 = true ∧ dgB i7 = true
 case neg => rw [if_neg hd] at h; cases h
 rw [if_pos hd] at h
 have d6 := z2O.1 hd.1
 have d7 := z2O.1 hd.2
 have HD := aS (show i6.length ≤ 1000 ∧ i7.length ≤ 1000 ∧ dOk i6 ∧ dOk i7 from ⟨d6.1, d7.1, d6.2, d7.2⟩)
 have he := za9 i4 i5 d6.1 d7.1
 replace h := sI h
 clear hr6 hr7 hc6 hc7 hG hd d6 d7
 cases s4 with
 | false =>
  rw [if_neg Bool.false_ne_true] at h
  have hte := aS he
  clear he
  generalize z2B i4 i5 i6 i7 = te at h hte
  cases te with
  | false =>
   have hR : Aside0 (false = r) := ⟨h⟩
   clear h
   go_enter Tryz.func93, Tryz.ntmps93
   go_wp2_with (first | ((with_reducible refine zq (N := 2) rfl ?_); refine bx (N := 2) (cs := #[.int .i64 i0, .int .i64 i1, .int .i64 i2, .int .i64 i3, .int .i64 i4, .bool i5, .slice A6 i6.length c6, .slice A7 i7.length c7]) (t := 63) ?_; intro gi hg w2 hbox hb; have BKi := aS hbox; replace HB := aS (bs_ HB.out hb); clear hg hb hbox) | ((with_reducible refine zq (N := 3) rfl ?_); refine bx (N := 3) (cs := #[.string s0, .int .i64 s1, .int .i64 s2, .int .i64 s3, .bool false, .int .i64 s5, .int .i64 s6]) (t := 72) ?_; intro gs hg w2 hbox hb; have BKs := aS hbox; replace HB := aS (bs_ HB.out hb); replace BKi := aS (zf BKi.out hb); clear hg hb hbox; obtain ⟨xi0, xi1, xi2, xi3, xi4, xi5, xi6, xi7⟩ := xo BKi.out; obtain ⟨xs0, xs1, xs2, xs3, xs4, xs5, xs6⟩ := z05 BKs.out) | (go_at_call 141; refine (z0T.calls i4 i5 A6 c6 i6 A7 c7 i7 _ _ (Kd.zK HR6.out HB.out) HC.out.1 (Kd.zK HR7.out HB.out) HC.out.2 hte.out).mono ?_; rintro e w4 ⟨rfl, hb⟩; replace HB := aS (bs_ HB.out hb); replace BKi := aS (zf BKi.out hb); replace BKs := aS (zf BKs.out hb); clear hb; obtain ⟨xi0, xi1, xi2, xi3, xi4, xi5, xi6, xi7⟩ := xo BKi.out; obtain ⟨xs0, xs1, xs2, xs3, xs4, xs5, xs6⟩ := z05 BKs.out))
   go_ret
   (obtain rfl := hR.out; exact ⟨rfl, HB.out⟩)
  | true =>
   have hR : Aside0 (fF i0 i1 i2 i3 s1 s2 s3 s5 s6 0 = r) := ⟨h⟩
   clear h
   go_enter Tryz.func93, Tryz.ntmps93
   go_wp2_with (first | ((with_reducible refine zq (N := 2) rfl ?_); refine bx (N := 2) (cs := #[.int .i64 i0, .int .i64 i1, .int .i64 i2, .int .i64 i3, .int .i64 i4, .bool i5, .slice A6 i6.length c6, .slice A7 i7.length c7]) (t := 63) ?_; intro gi hg w2 hbox hb; have BKi := aS hbox; replace HB := aS (bs_ HB.out hb); clear hg hb hbox) | ((with_reducible refine zq (N := 3) rfl ?_); refine bx (N := 3) (cs := #[.string s0, .int .i64 s1, .int .i64 s2, .int .i64 s3, .bool false, .int .i64 s5, .int .i64 s6]) (t := 72) ?_; intro gs hg w2 hbox hb; have BKs := aS hbox; replace HB := aS (bs_ HB.out hb); replace BKi := aS (zf BKi.out hb); clear hg hb hbox; obtain ⟨xi0, xi1, xi2, xi3, xi4, xi5, xi6, xi7⟩ := xo BKi.out; obtain ⟨xs0, xs1, xs2, xs3, xs4, xs5, xs6⟩ := z05 BKs.out) | (go_at_call 141; refine (z0T.calls i4 i5 A6 c6 i6 A7 c7 i7 _ _ (Kd.zK HR6.out HB.out) HC.out.1 (Kd.zK HR7.out HB.out) HC.out.2 hte.out).mono ?_; rintro e w4 ⟨rfl, hb⟩; replace HB := aS (bs_ HB.out hb); replace BKi := aS (zf BKi.out hb); replace BKs := aS (zf BKs.out hb); clear hb; obtain ⟨xi0, xi1, xi2, xi3, xi4, xi5, xi6, xi7⟩ := xo BKi.out; obtain ⟨xs0, xs1, xs2, xs3, xs4, xs5, xs6⟩ := z05 BKs.out) | (go_at_call 42; refine (z0G _ _ _ _ _ _ _ _).mono ?_; rintro e w5 ⟨rfl, hb⟩; replace HB := aS (bs_ HB.out hb); replace BKi := aS (zf BKi.out hb); replace BKs := aS (zf BKs.out hb); clear hb; obtain ⟨xi0, xi1, xi2, xi3, xi4, xi5, xi6, xi7⟩ := xo BKi.out; obtain ⟨xs0, xs1, xs2, xs3, xs4, xs5, xs6⟩ := z05 BKs.out))
   go_loopg [35] 3 (fun kq v35 w' => ∃ (j : Nat) (b4 : Bool), v35 = .int .i64 (j : Int) ∧ Aside0 (kq + j = 3 ∧ fF i0 i1 i2 i3 s1 s2 s3 s5 s6 j = r) ∧ Aside0 (Below w.heap.size w w') ∧ Aside0 (w'.heap[gi]? = some (.cells #[.int .i64 i0, .int .i64 i1, .int .i64 i2, .int .i64 i3, .int .i64 i4, .bool i5, .slice A6 i6.length c6, .slice A7 i7.length c7] 63 (0, 0))) ∧ Aside0 (w'.heap[gs]? = some (.cells #[.string s0, .int .i64 s1, .int .i64 s2, .int .i64 s3, .bool b4, .int .i64 s5, .int .i64 s6] 72 (0, 0))))
   case atStart => exact ⟨0, _, by first | rfl | (simp; done), ⟨rfl, hR.out⟩, HB, BKi, BKs⟩
   case round =>
    clear HB BKi BKs hR
    obtain ⟨j, b4, rfl, hj, HB, BKi, BKs⟩ := hrel
    obtain ⟨xi0, xi1, xi2, xi3, xi4, xi5, xi6, xi7⟩ := xo BKi.out; obtain ⟨xs0, xs1, xs2, xs3, xs4, xs5, xs6⟩ := z05 BKs.out
    cases gk with
    | zero =>
     obtain rfl : j = 3 := by have := hj.out.1; omega
     go_wp2
     go_ret
     (obtain rfl := hj.out.2; exact ⟨rfl, HB.out⟩)
    | succ k3 =>
     obtain ⟨u, n, hun⟩ : ∃ u n, (j = 0 ∧ s1 = u ∧ i1 = n) ∨ (j = 1 ∧ s2 = u ∧ i2 = n) ∨ (j = 2 ∧ s3 = u ∧ i3 = n) := by
      have h3 := hj.out.1
      have h4 : j = 0 ∨ j = 1 ∨ j = 2 := by omega
      rcases h4 with h4 | h4 | h4
      ·exact ⟨_, _, .inl ⟨h4, rfl, rfl⟩⟩
      ·exact ⟨_, _, .inr (.inl ⟨h4, rfl, rfl⟩)⟩
      ·exact ⟨_, _, .inr (.inr ⟨h4, rfl, rfl⟩)⟩
     have hst : Aside0 ((okF u n i0 s5 s6 && fF i0 i1 i2 i3 s1 s2 s3 s5 s6 (j + 1)) = r) := ⟨by
      rw [← hj.out.2]
      rcases hun with ⟨rfl, rfl, rfl⟩ | ⟨rfl, rfl, rfl⟩ | ⟨rfl, rfl, rfl⟩ <;> simp [fF]⟩
     have hk := aS hj.out.1
     clear hj
     rcases z5I u n i0 s5 s6 with ⟨k1, k2, k3_, k4, k5, k6, hok⟩ | ⟨k1, k2, k3_, k4, k5, k6, hok⟩ | ⟨k1, k2, k3_, k4, k5, k6, hok⟩ | ⟨k1, k2, k3_, k4, k5, k6, hok⟩ | ⟨k1, k2, k3_, k4, k5, k6, hok⟩ | ⟨k1, k2, k3_, k4, k5, k6, hok⟩ | ⟨k1, k2, k3_, k4, k5, k6, hok⟩ | ⟨k1, k2, k3_, k4, k5, k6, hok⟩ <;> rw [hok] at hst <;> clear hok <;> (first | have q1 := eqT k1 | have q1 := eqF k1) <;> (first | have q2 := eqT k2 | have q2 := eqF k2 | skip) <;> (first | have q3 := eqT k3_ | have q3 := eqF k3_) <;> (first | have q6 := eqT k6 | have q6 := eqF k6 | skip) <;> rcases hun with ⟨rfl, rfl, rfl⟩ | ⟨rfl, rfl, rfl⟩ | ⟨rfl, rfl, rfl⟩
     all_goals (go_wp2_with (go_at_call 43; refine (yi gi _).mono ?_; rintro e w6 ⟨rfl, hb⟩; replace HB := aS (bs_ HB.out hb); replace BKi := aS (zf BKi.out hb); replace BKs := aS (zf BKs.out hb); clear hb; obtain ⟨xi0, xi1, xi2, xi3, xi4, xi5, xi6, xi7⟩ := xo BKi.out; obtain ⟨xs0, xs1, xs2, xs3, xs4, xs5, xs6⟩ := z05 BKs.out))
     all_goals first
      | (go_ret; obtain rfl := hst.out; exact ⟨rfl, HB.out⟩)
      | (go_roundg k3; (case measure => omega); (case rel => first | exact ⟨1, b4, by first | rfl | (simp; done), ⟨by have := hk.out; omega, hst.out⟩, HB, BKi, BKs⟩ | exact ⟨2, b4, by first | rfl | (simp; done), ⟨by have := hk.out; omega, hst.out⟩, HB, BKi, BKs⟩ | exact ⟨3, b4, by first | rfl | (simp; done), ⟨by have := hk.out; omega, hst.out⟩, HB, BKi, BKs⟩))
 | true =>
  rw [if_pos rfl] at h
  clear he
  by_cases h0 : i4 = 0; rotate_left
  ·have k0 : (i4 == 0) = false := beq_eq_false_iff_ne.2 h0
   have k0_ : (i4 = 0) = False := eq_false h0
   rw [dF h0, Bool.false_and] at h
   have hR : Aside0 (false = r) := ⟨h⟩
   clear h h0
   go_enter Tryz.func93, Tryz.ntmps93
   go_wp2_with (first | ((with_reducible refine zq (N := 2) rfl ?_); refine bx (N := 2) (cs := #[.int .i64 i0, .int .i64 i1, .int .i64 i2, .int .i64 i3, .int .i64 i4, .bool i5, .slice A6 i6.length c6, .slice A7 i7.length c7]) (t := 63) ?_; intro gi hg w2 hbox hb; have BKi := aS hbox; replace HB := aS (bs_ HB.out hb); clear hg hb hbox) | ((with_reducible refine zq (N := 3) rfl ?_); refine bx (N := 3) (cs := #[.string s0, .int .i64 s1, .int .i64 s2, .int .i64 s3, .bool true, .int .i64 s5, .int .i64 s6]) (t := 72) ?_; intro gs hg w2 hbox hb; have BKs := aS hbox; replace HB := aS (bs_ HB.out hb); replace BKi := aS (zf BKi.out hb); clear hg hb hbox; obtain ⟨xi0, xi1, xi2, xi3, xi4, xi5, xi6, xi7⟩ := xo BKi.out; obtain ⟨xs0, xs1, xs2, xs3, xs4, xs5, xs6⟩ := z05 BKs.out))
   go_ret
   (obtain rfl := hR.out; exact ⟨rfl, HB.out⟩)
  have k0 : (i4 == 0) = true := beq_iff_eq.2 h0
  have k0_ : (i4 = 0) = True := eq_true h0
  rw [dT h0, Bool.true_and] at h
  have hte : Aside0 (z5m i4 i5 i6 i7 = z5m i4 i5 i6 i7) := ⟨rfl⟩
  generalize hq : z5m i4 i5 i6 i7 = te at h
  replace hte := aS hq
  clear hq h0
  cases te with
  | false =>
   have hR : Aside0 (false = r) := ⟨h⟩
   clear h
   go_enter Tryz.func93, Tryz.ntmps93
   go_wp2_with (first | ((with_reducible refine zq (N := 2) rfl ?_); refine bx (N := 2) (cs := #[.int .i64 i0, .int .i64 i1, .int .i64 i2, .int .i64 i3, .int .i64 i4, .bool i5, .slice A6 i6.length c6, .slice A7 i7.length c7]) (t := 63) ?_; intro gi hg w2 hbox hb; have BKi := aS hbox; replace HB := aS (bs_ HB.out hb); clear hg hb hbox) | ((with_reducible refine zq (N := 3) rfl ?_); refine bx (N := 3) (cs := #[.string s0, .int .i64 s1, .int .i64 s2, .int .i64 s3, .bool true, .int .i64 s5, .int .i64 s6]) (t := 72) ?_; intro gs hg w2 hbox hb; have BKs := aS hbox; replace HB := aS (bs_ HB.out hb); replace BKi := aS (zf BKi.out hb); clear hg hb hbox; obtain ⟨xi0, xi1, xi2, xi3, xi4, xi5, xi6, xi7⟩ := xo BKi.out; obtain ⟨xs0, xs1, xs2, xs3, xs4, xs5, xs6⟩ := z05 BKs.out) | (go_at_call 140; (with_reducible refine (z43 i4 i5 A6 c6 i6 A7 c7 i7 _ (Kd.zK HR6.out HB.out) HC.out.1 (Kd.zK HR7.out HB.out) HC.out.2 HD.out.1 HD.out.2.1 HD.out.2.2.1 HD.out.2.2.2).mono ?_); rw [hte.out]; rintro e w4 ⟨rfl, hb⟩; replace HB := aS (bs_ HB.out hb); replace BKi := aS (zf BKi.out hb); replace BKs := aS (zf BKs.out hb); clear hb; obtain ⟨xi0, xi1, xi2, xi3, xi4, xi5, xi6, xi7⟩ := xo BKi.out; obtain ⟨xs0, xs1, xs2, xs3, xs4, xs5, xs6⟩ := z05 BKs.out))
   go_ret
   (obtain rfl := hR.out; exact ⟨rfl, HB.out⟩)
  | true =>
   have hR : Aside0 (fF i0 i1 i2 i3 s1 s2 s3 s5 s6 0 = r) := ⟨h⟩
   clear h
   go_enter Tryz.func93, Tryz.ntmps93
   go_wp2_with (first | ((with_reducible refine zq (N := 2) rfl ?_); refine bx (N := 2) (cs := #[.int .i64 i0, .int .i64 i1, .int .i64 i2, .int .i64 i3, .int .i64 i4, .bool i5, .slice A6 i6.length c6, .slice A7 i7.length c7]) (t := 63) ?_; intro gi hg w2 hbox hb; have BKi := aS hbox; replace HB := aS (bs_ HB.out hb); clear hg hb hbox) | ((with_reducible refine zq (N := 3) rfl ?_); refine bx (N := 3) (cs := #[.string s0, .int .i64 s1, .int .i64 s2, .int .i64 s3, .bool true, .int .i64 s5, .int .i64 s6]) (t := 72) ?_; intro gs hg w2 hbox hb; have BKs := aS hbox; replace HB := aS (bs_ HB.out hb); replace BKi := aS (zf BKi.out hb); clear hg hb hbox; obtain ⟨xi0, xi1, xi2, xi3, xi4, xi5, xi6, xi7⟩ := xo BKi.out; obtain ⟨xs0, xs1, xs2, xs3, xs4, xs5, xs6⟩ := z05 BKs.out) | (go_at_call 140; (with_reducible refine (z43 i4 i5 A6 c6 i6 A7 c7 i7 _ (Kd.zK HR6.out HB.out) HC.out.1 (Kd.zK HR7.out HB.out) HC.out.2 HD.out.1 HD.out.2.1 HD.out.2.2.1 HD.out.2.2.2).mono ?_); rw [hte.out]; rintro e w4 ⟨rfl, hb⟩; replace HB := aS (bs_ HB.out hb); replace BKi := aS (zf BKi.out hb); replace BKs := aS (zf BKs.out hb); clear hb; obtain ⟨xi0, xi1, xi2, xi3, xi4, xi5, xi6, xi7⟩ := xo BKi.out; obtain ⟨xs0, xs1, xs2, xs3, xs4, xs5, xs6⟩ := z05 BKs.out) | (go_at_call 42; refine (z0G _ _ _ _ _ _ _ _).mono ?_; rintro e w5 ⟨rfl, hb⟩; replace HB := aS (bs_ HB.out hb); replace BKi := aS (zf BKi.out hb); replace BKs := aS (zf BKs.out hb); clear hb; obtain ⟨xi0, xi1, xi2, xi3, xi4, xi5, xi6, xi7⟩ := xo BKi.out; obtain ⟨xs0, xs1, xs2, xs3, xs4, xs5, xs6⟩ := z05 BKs.out))
   go_loopg [35] 3 (fun kq v35 w' => ∃ (j : Nat) (b4 : Bool), v35 = .int .i64 (j : Int) ∧ Aside0 (kq + j = 3 ∧ fF i0 i1 i2 i3 s1 s2 s3 s5 s6 j = r) ∧ Aside0 (Below w.heap.size w w') ∧ Aside0 (w'.heap[gi]? = some (.cells #[.int .i64 i0, .int .i64 i1, .int .i64 i2, .int .i64 i3, .int .i64 i4, .bool i5, .slice A6 i6.length c6, .slice A7 i7.length c7] 63 (0, 0))) ∧ Aside0 (w'.heap[gs]? = some (.cells #[.string s0, .int .i64 s1, .int .i64 s2, .int .i64 s3, .bool b4, .int .i64 s5, .int .i64 s6] 72 (0, 0))))
   case atStart => exact ⟨0, _, by first | rfl | (simp; done), ⟨rfl, hR.out⟩, HB, BKi, BKs⟩
   case round =>
    clear HB BKi BKs hR
    obtain ⟨j, b4, rfl, hj, HB, BKi, BKs⟩ := hrel
    obtain ⟨xi0, xi1, xi2, xi3, xi4, xi5, xi6, xi7⟩ := xo BKi.out; obtain ⟨xs0, xs1, xs2, xs3, xs4, xs5, xs6⟩ := z05 BKs.out
    cases gk with
    | zero =>
     obtain rfl : j = 3 := by have := hj.out.1; omega
     go_wp2
     go_ret
     (obtain rfl := hj.out.2; exact ⟨rfl, HB.out⟩)
    | succ k3 =>
     obtain ⟨u, n, hun⟩ : ∃ u n, (j = 0 ∧ s1 = u ∧ i1 = n) ∨ (j = 1 ∧ s2 = u ∧ i2 = n) ∨ (j = 2 ∧ s3 = u ∧ i3 = n) := by
      have h3 := hj.out.1
      have h4 : j = 0 ∨ j = 1 ∨ j = 2 := by omega
      rcases h4 with h4 | h4 | h4
      ·exact ⟨_, _, .inl ⟨h4, rfl, rfl⟩⟩
      ·exact ⟨_, _, .inr (.inl ⟨h4, rfl, rfl⟩)⟩
      ·exact ⟨_, _, .inr (.inr ⟨h4, rfl, rfl⟩)⟩
     have hst : Aside0 ((okF u n i0 s5 s6 && fF i0 i1 i2 i3 s1 s2 s3 s5 s6 (j + 1)) = r) := ⟨by
      rw [← hj.out.2]
      rcases hun with ⟨rfl, rfl, rfl⟩ | ⟨rfl, rfl, rfl⟩ | ⟨rfl, rfl, rfl⟩ <;> simp [fF]⟩
     have hk := aS hj.out.1
     clear hj
     rcases z5I u n i0 s5 s6 with ⟨k1, k2, k3_, k4, k5, k6, hok⟩ | ⟨k1, k2, k3_, k4, k5, k6, hok⟩ | ⟨k1, k2, k3_, k4, k5, k6, hok⟩ | ⟨k1, k2, k3_, k4, k5, k6, hok⟩ | ⟨k1, k2, k3_, k4, k5, k6, hok⟩ | ⟨k1, k2, k3_, k4, k5, k6, hok⟩ | ⟨k1, k2, k3_, k4, k5, k6, hok⟩ | ⟨k1, k2, k3_, k4, k5, k6, hok⟩ <;> rw [hok] at hst <;> clear hok <;> (first | have q1 := eqT k1 | have q1 := eqF k1) <;> (first | have q2 := eqT k2 | have q2 := eqF k2 | skip) <;> (first | have q3 := eqT k3_ | have q3 := eqF k3_) <;> (first | have q6 := eqT k6 | have q6 := eqF k6 | skip) <;> rcases hun with ⟨rfl, rfl, rfl⟩ | ⟨rfl, rfl, rfl⟩ | ⟨rfl, rfl, rfl⟩
     all_goals (go_wp2_with (go_at_call 43; refine (yi gi _).mono ?_; rintro e w6 ⟨rfl, hb⟩; replace HB := aS (bs_ HB.out hb); replace BKi := aS (zf BKi.out hb); replace BKs := aS (zf BKs.out hb); clear hb; obtain ⟨xi0, xi1, xi2, xi3, xi4, xi5, xi6, xi7⟩ := xo BKi.out; obtain ⟨xs0, xs1, xs2, xs3, xs4, xs5, xs6⟩ := z05 BKs.out))
     all_goals first
      | (go_ret; obtain rfl := hst.out; exact ⟨rfl, HB.out⟩)
      | (go_roundg k3; (case measure => omega); (case rel => first | exact ⟨1, b4, by first | rfl | (simp; done), ⟨by have := hk.out; omega, hst.out⟩, HB, BKi, BKs⟩ | exact ⟨2, b4, by first | rfl | (simp; done), ⟨by have := hk.out; omega, hst.out⟩, HB, BKi, BKs⟩ | exact ⟨3, b4, by first | rfl | (simp; done), ⟨by have := hk.out; omega, hst.out⟩, HB, BKi, BKs⟩))
end
end
section
section
attribute [local go_sem] Instr.index
def okR (slots room n : Int) : Bool := if n < 0 then false else if n > wrap64 (slots - room) then false else true
def okT (l : List S50) (a1 ia u n : Int) : Option Bool :=
 if u = 1 then some (okR (z8 l a1).f3 1 n) else if u = 6 then some (okR (z8 l a1).f3 ((z8 l a1).f2.length : Int) n)
 else if u = 4 then (if 0 ≤ ia then (if ia < (l.length : Int) then some (okR (z8 l a1).f3 ((z8 l ia).f1.length : Int) n) else none) else none)
 else if u = 5 then (if 0 ≤ ia then (if ia < (l.length : Int) then some (okR (z8 l a1).f3 ((z8 l ia).f2.length : Int) n) else none) else none)
 else if u = 2 then some (if n < 0 then false else if n ≥ ((z8 l a1).f4.length : Int) then false else true)
 else if u = 7 then some (if n < 0 then false else if n ≥ a1 then false else true) else some true
theorem uk (u : Int) : (u = 1 ∧ (u == 1) = true ∧ (u == 6) = false ∧ (u == 4) = false ∧ (u == 5) = false ∧ (u == 2) = false ∧ (u == 7) = false) ∨ (u = 6 ∧ (u == 1) = false ∧ (u == 6) = true ∧ (u == 4) = false ∧ (u == 5) = false ∧ (u == 2) = false ∧ (u == 7) = false) ∨ (u = 4 ∧ (u == 1) = false ∧ (u == 6) = false ∧ (u == 4) = true ∧ (u == 5) = false ∧ (u == 2) = false ∧ (u == 7) = false) ∨ (u = 5 ∧ (u == 1) = false ∧ (u == 6) = false ∧ (u == 4) = false ∧ (u == 5) = true ∧ (u == 2) = false ∧ (u == 7) = false) ∨ (u = 2 ∧ (u == 1) = false ∧ (u == 6) = false ∧ (u == 4) = false ∧ (u == 5) = false ∧ (u == 2) = true ∧ (u == 7) = false) ∨ (u = 7 ∧ (u == 1) = false ∧ (u == 6) = false ∧ (u == 4) = false ∧ (u == 5) = false ∧ (u == 2) = false ∧ (u == 7) = true) ∨ ((u ≠ 1 ∧ u ≠ 6 ∧ u ≠ 4 ∧ u ≠ 5 ∧ u ≠ 2 ∧ u ≠ 7) ∧ (u == 1) = false ∧ (u == 6) = false ∧ (u == 4) = false ∧ (u == 5) = false ∧ (u == 2) = false ∧ (u == 7) = false) := by
 have hu_ : u = 1 ∨ u = 6 ∨ u = 4 ∨ u = 5 ∨ u = 2 ∨ u = 7 ∨ (u ≠ 1 ∧ u ≠ 6 ∧ u ≠ 4 ∧ u ≠ 5 ∧ u ≠ 2 ∧ u ≠ 7) := by omega
 rcases hu_ with rfl | rfl | rfl | rfl | rfl | rfl | h
 ·exact .inl (by decide)
 ·exact .inr (.inl (by decide))
 ·exact .inr (.inr (.inl (by decide)))
 ·exact .inr (.inr (.inr (.inl (by decide))))
 ·exact .inr (.inr (.inr (.inr (.inl (by decide)))))
 ·exact .inr (.inr (.inr (.inr (.inr (.inl (by decide))))))
 ·exact .inr (.inr (.inr (.inr (.inr (.inr ⟨h, beq_eq_false_iff_ne.2 h.1, beq_eq_false_iff_ne.2 h.2.1, beq_eq_false_iff_ne.2 h.2.2.1, beq_eq_false_iff_ne.2 h.2.2.2.1, beq_eq_false_iff_ne.2 h.2.2.2.2.1, beq_eq_false_iff_ne.2 h.2.2.2.2.2⟩)))))
def T3 (o : Option Bool) (n : Int) (c : Bool) : Prop := (decide (n < 0) = true ∧ True ∧ o = some false) ∨ (decide (n < 0) = false ∧ c = true ∧ o = some false) ∨ (decide (n < 0) = false ∧ c = false ∧ o = some true)
theorem z5W (n : Int) (c : Prop) [Decidable c] : T3 (some (if n < 0 then false else if c then false else true)) n (decide c) := by
 unfold T3
 by_cases h : n < 0
 ·exact .inl ⟨dT h, trivial, by rw [if_pos h]⟩
 ·by_cases hc : c
  ·exact .inr (.inl ⟨dF h, dT hc, by rw [if_neg h, if_pos hc]⟩)
  ·exact .inr (.inr ⟨dF h, dF hc, by rw [if_neg h, if_neg hc]⟩)
theorem zdM (l : List S50) (a1 ia u n : Int) (h : u = 1) : T3 (okT l a1 ia u n) n (decide (n > wrap64 ((z8 l a1).f3 - 1))) := by subst h; exact z5W n _
theorem zdQ (l : List S50) (a1 ia u n : Int) (h : u = 6) : T3 (okT l a1 ia u n) n (decide (n > wrap64 ((z8 l a1).f3 - ((z8 l a1).f2.length : Int)))) := by subst h; exact z5W n _
theorem zdO (l : List S50) (a1 ia u n : Int) (h : u = 4) (h0 : 0 ≤ ia) (h1 : ia < (l.length : Int)) : T3 (okT l a1 ia u n) n (decide (n > wrap64 ((z8 l a1).f3 - ((z8 l ia).f1.length : Int)))) := by
 subst h
 have e : okT l a1 ia 4 n = some (okR (z8 l a1).f3 ((z8 l ia).f1.length : Int) n) := by unfold okT; rw [if_neg (by decide), if_neg (by decide), if_pos rfl, if_pos h0, if_pos h1]
 rw [e]; exact z5W n _
theorem zdP (l : List S50) (a1 ia u n : Int) (h : u = 5) (h0 : 0 ≤ ia) (h1 : ia < (l.length : Int)) : T3 (okT l a1 ia u n) n (decide (n > wrap64 ((z8 l a1).f3 - ((z8 l ia).f2.length : Int)))) := by
 subst h
 have e : okT l a1 ia 5 n = some (okR (z8 l a1).f3 ((z8 l ia).f2.length : Int) n) := by unfold okT; rw [if_neg (by decide), if_neg (by decide), if_neg (by decide), if_pos rfl, if_pos h0, if_pos h1]
 rw [e]; exact z5W n _
theorem zdN (l : List S50) (a1 ia u n : Int) (h : u = 2) : T3 (okT l a1 ia u n) n (decide (n ≥ ((z8 l a1).f4.length : Int))) := by subst h; exact z5W n _
theorem zdR (l : List S50) (a1 ia u n : Int) (h : u = 7) : T3 (okT l a1 ia u n) n (decide (n ≥ a1)) := by subst h; exact z5W n _
theorem zdL (l : List S50) (a1 ia u n : Int) (h : u ≠ 1 ∧ u ≠ 6 ∧ u ≠ 4 ∧ u ≠ 5 ∧ u ≠ 2 ∧ u ≠ 7) : okT l a1 ia u n = some true := by
 unfold okT
 rw [if_neg h.1, if_neg h.2.1, if_neg h.2.2.1, if_neg h.2.2.2.1, if_neg h.2.2.2.2.1, if_neg h.2.2.2.2.2]
theorem zbX (l : List S50) (a1 ia u n : Int) (h : u = 4 ∨ u = 5) (hi : ¬ (0 ≤ ia ∧ ia < (l.length : Int))) : okT l a1 ia u n = none := by
 rcases h with rfl | rfl <;> unfold okT
 ·rw [if_neg (by decide), if_neg (by decide), if_pos rfl]
  by_cases h0 : 0 ≤ ia
  ·rw [if_pos h0, if_neg (fun h => hi ⟨h0, h⟩)]
  ·rw [if_neg h0]
 ·rw [if_neg (by decide), if_neg (by decide), if_neg (by decide), if_pos rfl]
  by_cases h0 : 0 ≤ ia
  ·rw [if_pos h0, if_neg (fun h => hi ⟨h0, h⟩)]
  ·rw [if_neg h0]
def thF (l : List S50) (a1 i1 i2 i3 s1 s2 s3 : Int) : Nat → Option Bool
 | 0 => (okT l a1 i1 s1 i1).bind fun t => if t = true then ((okT l a1 i1 s2 i2).bind fun t => if t = true then ((okT l a1 i1 s3 i3).bind fun t => if t = true then some true else some false) else some false) else some false
 | 1 => (okT l a1 i1 s2 i2).bind fun t => if t = true then ((okT l a1 i1 s3 i3).bind fun t => if t = true then some true else some false) else some false
 | 2 => (okT l a1 i1 s3 i3).bind fun t => if t = true then some true else some false
 | _ => some true
def xX.f (l : List S50) (a1 i0 i1 i2 i3 i4 : Int) (i5 : Bool) (i6 i7 : List Int) (s0 : ByteArray) (s1 s2 s3 : Int) (s4 : Bool) (s5 s6 : Int) : Option Bool :=
 if 0 ≤ a1 ∧ a1 < (l.length : Int) then thF l a1 i1 i2 i3 s1 s2 s3 0 else none
theorem xX.calls (A0 : Option Addr) (c0 : Nat) (l0 : List S50) (a1 i0 i1 i2 i3 i4 : Int) (i5 : Bool) (A6 : Option Addr) (c6 : Nat) (i6 : List Int) (A7 : Option Addr) (c7 : Nat) (i7 : List Int) (s0 : ByteArray) (s1 s2 s3 : Int) (s4 : Bool) (s5 s6 : Int) (r : Bool) (w : World) (hG : GW w) (hr0 : Kd.C k50 w A0 l0.length l0) (hc0 : l0.length ≤ c0) (hr6 : Kd.C (Kd.int .u32) w A6 i6.length i6) (hc6 : i6.length ≤ c6) (hr7 : Kd.C (Kd.int .u32) w A7 i7.length i7) (hc7 : i7.length ≤ c7) (h : xX.f l0 a1 i0 i1 i2 i3 i4 i5 i6 i7 s0 s1 s2 s3 s4 s5 s6 = some r) :
 Calls Tryz.prog 94 #[.slice A0 l0.length c0, .int .i64 a1, .agg #[.int .i64 i0, .int .i64 i1, .int .i64 i2, .int .i64 i3, .int .i64 i4, .bool i5, .slice A6 i6.length c6, .slice A7 i7.length c7], .agg #[.string s0, .int .i64 s1, .int .i64 s2, .int .i64 s3, .bool s4, .int .i64 s5, .int .i64 s6]] w fun e w' => e = .returned (.bool r) ∧ Below w.heap.size w w' := by
 have hu63 := Tryz.underlying63
 have hu72 := Tryz.underlying72
 have hu50 := Tryz.underlying50
 have hu75 := Tryz.underlying75
 have hu78 := Tryz.underlying78
 have hu77 := Tryz.underlying77
 have hu70 := Tryz.underlying70
 unfold xX.f at h
 by_cases hat : 0 ≤ a1 ∧ a1 < (l0.length : Int)
 case neg => rw [if_neg hat] at h; cases h
 rw [if_pos hat] at h
 have HB := hR w
 have hR := aS h
 have HR0 := aS hr0
 have HC0 := aS hc0
 obtain ⟨ad, _, _, _, _, _, _, eA, _, _, _, _, _, _, _, _, _, _, _⟩ := xW hr0 a1 hat.1 hat.2
 subst eA
 have pa := aS hat.1; have qa := aS hat.2
 have fa1 : (0 ≤ a1) = True := eq_true hat.1; have fa2 : (a1 < (l0.length : Int)) = True := eq_true hat.2
 clear hr0 hc0 hr6 hr7 hc6 hc7 hG h hat
 go_enter Tryz.func94, Tryz.ntmps94
 go_wp2_with (first | ((with_reducible refine zq (N := 6) rfl ?_); refine bx (N := 6) (cs := #[.int .i64 i0, .int .i64 i1, .int .i64 i2, .int .i64 i3, .int .i64 i4, .bool i5, .slice A6 i6.length c6, .slice A7 i7.length c7]) (t := 63) ?_; intro gi hg w6 hbox hb; have BKi := aS hbox; replace HB := aS (bs_ HB.out hb); clear hg hb hbox) | ((with_reducible refine zq (N := 7) rfl ?_); refine bx (N := 7) (cs := #[.string s0, .int .i64 s1, .int .i64 s2, .int .i64 s3, .bool s4, .int .i64 s5, .int .i64 s6]) (t := 72) ?_; intro gs hg w7 hbox hb; have BKs := aS hbox; replace HB := aS (bs_ HB.out hb); replace BKi := aS (zf BKi.out hb); clear hg hb hbox; obtain ⟨ys0, ys1, ys2, ys3, ys4, ys5, ys6⟩ := zbu BKs.out; obtain ⟨adr, R1, k1, R2, k2, R4, k4, er, hxr0, hxr1, hxr2, hxr3, hxr4, _, _, _, _, _, _⟩ := xW (Kd.zK HR0.out HB.out) a1 pa.out qa.out; obtain rfl : ad = adr := (by injection er)) | (go_at_call 42; refine (z0G _ _ _ _ _ _ _ _).mono ?_; rintro e w5 ⟨rfl, hb⟩; have BKr := aS (zf (xt _ _) hb); replace HB := aS (bs_ (zl HB.out _) hb); replace BKi := aS (zf (zZ BKi.out _) hb); clear BKs hb ys0 ys1 ys2 ys3 ys4 ys5 ys6 hxr0 hxr1 hxr2 hxr3 hxr4; obtain ⟨xi0, xi1, xi2, xi3, _, _, _, _⟩ := xo BKi.out; obtain ⟨xr0, xr1, xr2, xr3, xr4⟩ := yL BKr.out))
 go_loopg [20] 3 (fun kq v20 w' => ∃ j : Nat, v20 = .int .i64 (j : Int) ∧ Aside0 (kq + j = 3 ∧ thF l0 a1 i1 i2 i3 s1 s2 s3 j = some r) ∧ Aside0 (Below w.heap.size w w') ∧ Aside0 (w'.heap[gi]? = some (.cells #[.int .i64 i0, .int .i64 i1, .int .i64 i2, .int .i64 i3, .int .i64 i4, .bool i5, .slice A6 i6.length c6, .slice A7 i7.length c7] 63 (0, 0))) ∧ Aside0 (w'.heap[w7.heap.size]? = some (.cells #[.string (z8 l0 a1).f0, .slice R1 (z8 l0 a1).f1.length k1, .slice R2 (z8 l0 a1).f2.length k2, .int .i64 (z8 l0 a1).f3, .slice R4 (z8 l0 a1).f4.length k4] 50 (0, 0))))
 case atStart => exact ⟨0, by first | rfl | (simp; done), ⟨rfl, hR.out⟩, HB, BKi, BKr⟩
 case round =>
  clear HB BKi BKr hR
  obtain ⟨j, rfl, hj, HB, BKi, BKr⟩ := hrel
  obtain ⟨xi0, xi1, xi2, xi3, _, _, _, _⟩ := xo BKi.out; obtain ⟨xr0, xr1, xr2, xr3, xr4⟩ := yL BKr.out
  cases gk with
  | zero =>
   obtain rfl : j = 3 := by have := hj.out.1; omega
   go_wp2
   go_ret
   (obtain rfl := sI hj.out.2; exact ⟨rfl, HB.out⟩)
  | succ k3 =>
   obtain ⟨u, n, hun⟩ : ∃ u n, (j = 0 ∧ s1 = u ∧ i1 = n) ∨ (j = 1 ∧ s2 = u ∧ i2 = n) ∨ (j = 2 ∧ s3 = u ∧ i3 = n) := by
    have h3 := hj.out.1
    have h4 : j = 0 ∨ j = 1 ∨ j = 2 := by omega
    rcases h4 with h4 | h4 | h4
    ·exact ⟨_, _, .inl ⟨h4, rfl, rfl⟩⟩
    ·exact ⟨_, _, .inr (.inl ⟨h4, rfl, rfl⟩)⟩
    ·exact ⟨_, _, .inr (.inr ⟨h4, rfl, rfl⟩)⟩
   have hst : ((okT l0 a1 i1 u n).bind fun t => if t = true then thF l0 a1 i1 i2 i3 s1 s2 s3 (j + 1) else some false) = some r := by
    rw [← hj.out.2]
    rcases hun with ⟨rfl, rfl, rfl⟩ | ⟨rfl, rfl, rfl⟩ | ⟨rfl, rfl, rfl⟩ <;> rfl
   have hk := aS hj.out.1
   clear hj
   have hia : (u = 4 ∨ u = 5) → 0 ≤ i1 ∧ i1 < (l0.length : Int) := fun hu => Classical.byContradiction fun hi => by
    rw [zbX l0 a1 i1 u n hu hi] at hst
    cases hst
   rcases uk u with ⟨hu, k1_, k6_, k4_, k5_, k2_, k7_⟩ | ⟨hu, k1_, k6_, k4_, k5_, k2_, k7_⟩ | ⟨hu, k1_, k6_, k4_, k5_, k2_, k7_⟩ | ⟨hu, k1_, k6_, k4_, k5_, k2_, k7_⟩ | ⟨hu, k1_, k6_, k4_, k5_, k2_, k7_⟩ | ⟨hu, k1_, k6_, k4_, k5_, k2_, k7_⟩ | ⟨hu, k1_, k6_, k4_, k5_, k2_, k7_⟩
   case inl => (rcases zdM l0 a1 i1 u n hu with ⟨kb, kc, hok⟩ | ⟨kb, kc, hok⟩ | ⟨kb, kc, hok⟩ <;> (rw [hok] at hst; clear hok hia hu; (replace hst := aS hst; (first | have q1_ := eqT k1_ | have q1_ := eqF k1_); (first | have q6_ := eqT k6_ | have q6_ := eqF k6_); (first | have q4_ := eqT k4_ | have q4_ := eqF k4_); (first | have q5_ := eqT k5_ | have q5_ := eqF k5_); (first | have q2_ := eqT k2_ | have q2_ := eqF k2_); (first | have q7_ := eqT k7_ | have q7_ := eqF k7_); rcases hun with ⟨rfl, rfl, rfl⟩ | ⟨rfl, rfl, rfl⟩ | ⟨rfl, rfl, rfl⟩ <;> (go_wp2_with (go_at_call 43; refine (yi gi _).mono ?_; rintro e w6 ⟨rfl, hb⟩; replace HB := aS (bs_ HB.out hb); replace BKi := aS (zf BKi.out hb); replace BKr := aS (zf BKr.out hb); clear hb; obtain ⟨xi0, xi1, xi2, xi3, _, _, _, _⟩ := xo BKi.out; obtain ⟨xr0, xr1, xr2, xr3, xr4⟩ := yL BKr.out)) <;> first | (go_ret; obtain rfl := sI hst.out; exact ⟨rfl, HB.out⟩) | (go_roundg k3; (case measure => omega); (case rel => first | exact ⟨1, by first | rfl | (simp; done), ⟨by have := hk.out; omega, hst.out⟩, HB, BKi, BKr⟩ | exact ⟨2, by first | rfl | (simp; done), ⟨by have := hk.out; omega, hst.out⟩, HB, BKi, BKr⟩ | exact ⟨3, by first | rfl | (simp; done), ⟨by have := hk.out; omega, hst.out⟩, HB, BKi, BKr⟩)))))
   case inr.inl => (rcases zdQ l0 a1 i1 u n hu with ⟨kb, kc, hok⟩ | ⟨kb, kc, hok⟩ | ⟨kb, kc, hok⟩ <;> (rw [hok] at hst; clear hok hia hu; (replace hst := aS hst; (first | have q1_ := eqT k1_ | have q1_ := eqF k1_); (first | have q6_ := eqT k6_ | have q6_ := eqF k6_); (first | have q4_ := eqT k4_ | have q4_ := eqF k4_); (first | have q5_ := eqT k5_ | have q5_ := eqF k5_); (first | have q2_ := eqT k2_ | have q2_ := eqF k2_); (first | have q7_ := eqT k7_ | have q7_ := eqF k7_); rcases hun with ⟨rfl, rfl, rfl⟩ | ⟨rfl, rfl, rfl⟩ | ⟨rfl, rfl, rfl⟩ <;> (go_wp2_with (go_at_call 43; refine (yi gi _).mono ?_; rintro e w6 ⟨rfl, hb⟩; replace HB := aS (bs_ HB.out hb); replace BKi := aS (zf BKi.out hb); replace BKr := aS (zf BKr.out hb); clear hb; obtain ⟨xi0, xi1, xi2, xi3, _, _, _, _⟩ := xo BKi.out; obtain ⟨xr0, xr1, xr2, xr3, xr4⟩ := yL BKr.out)) <;> first | (go_ret; obtain rfl := sI hst.out; exact ⟨rfl, HB.out⟩) | (go_roundg k3; (case measure => omega); (case rel => first | exact ⟨1, by first | rfl | (simp; done), ⟨by have := hk.out; omega, hst.out⟩, HB, BKi, BKr⟩ | exact ⟨2, by first | rfl | (simp; done), ⟨by have := hk.out; omega, hst.out⟩, HB, BKi, BKr⟩ | exact ⟨3, by first | rfl | (simp; done), ⟨by have := hk.out; omega, hst.out⟩, HB, BKi, BKr⟩)))))
   case inr.inr.inl => have pia := aS (hia (by omega)).1; have qia := aS (hia (by omega)).2; have fi1 : (0 ≤ i1) = True := eq_true pia.out; have fi2 : (i1 < (l0.length : Int)) = True := eq_true qia.out; (rcases zdO l0 a1 i1 u n hu pia.out qia.out with ⟨kb, kc, hok⟩ | ⟨kb, kc, hok⟩ | ⟨kb, kc, hok⟩ <;> (rw [hok] at hst; clear hok hia hu; (replace hst := aS hst; (first | have q1_ := eqT k1_ | have q1_ := eqF k1_); (first | have q6_ := eqT k6_ | have q6_ := eqF k6_); (first | have q4_ := eqT k4_ | have q4_ := eqF k4_); (first | have q5_ := eqT k5_ | have q5_ := eqF k5_); (first | have q2_ := eqT k2_ | have q2_ := eqF k2_); (first | have q7_ := eqT k7_ | have q7_ := eqF k7_); rcases hun with ⟨rfl, rfl, rfl⟩ | ⟨rfl, rfl, rfl⟩ | ⟨rfl, rfl, rfl⟩ <;> (go_wp2_with (go_at_call 43; refine (yi gi _).mono ?_; rintro e w6 ⟨rfl, hb⟩; replace HB := aS (bs_ HB.out hb); replace BKi := aS (zf BKi.out hb); replace BKr := aS (zf BKr.out hb); clear hb; obtain ⟨xi0, xi1, xi2, xi3, _, _, _, _⟩ := xo BKi.out; obtain ⟨xr0, xr1, xr2, xr3, xr4⟩ := yL BKr.out; (obtain ⟨adq, Q1, qk1, Q2, qk2, Q4, qk4, eq, hxq0, hxq1, hxq2, hxq3, hxq4, _, _, _, _, _, _⟩ := xW (Kd.zK HR0.out HB.out) i1 pia.out qia.out; obtain rfl : ad = adq := (by injection eq)))) <;> first | (go_ret; obtain rfl := sI hst.out; exact ⟨rfl, HB.out⟩) | (go_roundg k3; (case measure => omega); (case rel => first | exact ⟨1, by first | rfl | (simp; done), ⟨by have := hk.out; omega, hst.out⟩, HB, BKi, BKr⟩ | exact ⟨2, by first | rfl | (simp; done), ⟨by have := hk.out; omega, hst.out⟩, HB, BKi, BKr⟩ | exact ⟨3, by first | rfl | (simp; done), ⟨by have := hk.out; omega, hst.out⟩, HB, BKi, BKr⟩)))))
   case inr.inr.inr.inl => have pia := aS (hia (by omega)).1; have qia := aS (hia (by omega)).2; have fi1 : (0 ≤ i1) = True := eq_true pia.out; have fi2 : (i1 < (l0.length : Int)) = True := eq_true qia.out; (rcases zdP l0 a1 i1 u n hu pia.out qia.out with ⟨kb, kc, hok⟩ | ⟨kb, kc, hok⟩ | ⟨kb, kc, hok⟩ <;> (rw [hok] at hst; clear hok hia hu; (replace hst := aS hst; (first | have q1_ := eqT k1_ | have q1_ := eqF k1_); (first | have q6_ := eqT k6_ | have q6_ := eqF k6_); (first | have q4_ := eqT k4_ | have q4_ := eqF k4_); (first | have q5_ := eqT k5_ | have q5_ := eqF k5_); (first | have q2_ := eqT k2_ | have q2_ := eqF k2_); (first | have q7_ := eqT k7_ | have q7_ := eqF k7_); rcases hun with ⟨rfl, rfl, rfl⟩ | ⟨rfl, rfl, rfl⟩ | ⟨rfl, rfl, rfl⟩ <;> (go_wp2_with (go_at_call 43; refine (yi gi _).mono ?_; rintro e w6 ⟨rfl, hb⟩; replace HB := aS (bs_ HB.out hb); replace BKi := aS (zf BKi.out hb); replace BKr := aS (zf BKr.out hb); clear hb; obtain ⟨xi0, xi1, xi2, xi3, _, _, _, _⟩ := xo BKi.out; obtain ⟨xr0, xr1, xr2, xr3, xr4⟩ := yL BKr.out; (obtain ⟨adq, Q1, qk1, Q2, qk2, Q4, qk4, eq, hxq0, hxq1, hxq2, hxq3, hxq4, _, _, _, _, _, _⟩ := xW (Kd.zK HR0.out HB.out) i1 pia.out qia.out; obtain rfl : ad = adq := (by injection eq)))) <;> first | (go_ret; obtain rfl := sI hst.out; exact ⟨rfl, HB.out⟩) | (go_roundg k3; (case measure => omega); (case rel => first | exact ⟨1, by first | rfl | (simp; done), ⟨by have := hk.out; omega, hst.out⟩, HB, BKi, BKr⟩ | exact ⟨2, by first | rfl | (simp; done), ⟨by have := hk.out; omega, hst.out⟩, HB, BKi, BKr⟩ | exact ⟨3, by first | rfl | (simp; done), ⟨by have := hk.out; omega, hst.out⟩, HB, BKi, BKr⟩)))))
   case inr.inr.inr.inr.inl => (rcases zdN l0 a1 i1 u n hu with ⟨kb, kc, hok⟩ | ⟨kb, kc, hok⟩ | ⟨kb, kc, hok⟩ <;> (rw [hok] at hst; clear hok hia hu; (replace hst := aS hst; (first | have q1_ := eqT k1_ | have q1_ := eqF k1_); (first | have q6_ := eqT k6_ | have q6_ := eqF k6_); (first | have q4_ := eqT k4_ | have q4_ := eqF k4_); (first | have q5_ := eqT k5_ | have q5_ := eqF k5_); (first | have q2_ := eqT k2_ | have q2_ := eqF k2_); (first | have q7_ := eqT k7_ | have q7_ := eqF k7_); rcases hun with ⟨rfl, rfl, rfl⟩ | ⟨rfl, rfl, rfl⟩ | ⟨rfl, rfl, rfl⟩ <;> (go_wp2_with (go_at_call 43; refine (yi gi _).mono ?_; rintro e w6 ⟨rfl, hb⟩; replace HB := aS (bs_ HB.out hb); replace BKi := aS (zf BKi.out hb); replace BKr := aS (zf BKr.out hb); clear hb; obtain ⟨xi0, xi1, xi2, xi3, _, _, _, _⟩ := xo BKi.out; obtain ⟨xr0, xr1, xr2, xr3, xr4⟩ := yL BKr.out)) <;> first | (go_ret; obtain rfl := sI hst.out; exact ⟨rfl, HB.out⟩) | (go_roundg k3; (case measure => omega); (case rel => first | exact ⟨1, by first | rfl | (simp; done), ⟨by have := hk.out; omega, hst.out⟩, HB, BKi, BKr⟩ | exact ⟨2, by first | rfl | (simp; done), ⟨by have := hk.out; omega, hst.out⟩, HB, BKi, BKr⟩ | exact ⟨3, by first | rfl | (simp; done), ⟨by have := hk.out; omega, hst.out⟩, HB, BKi, BKr⟩)))))
   case inr.inr.inr.inr.inr.inl => (rcases zdR l0 a1 i1 u n hu with ⟨kb, kc, hok⟩ | ⟨kb, kc, hok⟩ | ⟨kb, kc, hok⟩ <;> (rw [hok] at hst; clear hok hia hu; (replace hst := aS hst; (first | have q1_ := eqT k1_ | have q1_ := eqF k1_); (first | have q6_ := eqT k6_ | have q6_ := eqF k6_); (first | have q4_ := eqT k4_ | have q4_ := eqF k4_); (first | have q5_ := eqT k5_ | have q5_ := eqF k5_); (first | have q2_ := eqT k2_ | have q2_ := eqF k2_); (first | have q7_ := eqT k7_ | have q7_ := eqF k7_); rcases hun with ⟨rfl, rfl, rfl⟩ | ⟨rfl, rfl, rfl⟩ | ⟨rfl, rfl, rfl⟩ <;> (go_wp2_with (go_at_call 43; refine (yi gi _).mono ?_; rintro e w6 ⟨rfl, hb⟩; replace HB := aS (bs_ HB.out hb); replace BKi := aS (zf BKi.out hb); replace BKr := aS (zf BKr.out hb); clear hb; obtain ⟨xi0, xi1, xi2, xi3, _, _, _, _⟩ := xo BKi.out; obtain ⟨xr0, xr1, xr2, xr3, xr4⟩ := yL BKr.out)) <;> first | (go_ret; obtain rfl := sI hst.out; exact ⟨rfl, HB.out⟩) | (go_roundg k3; (case measure => omega); (case rel => first | exact ⟨1, by first | rfl | (simp; done), ⟨by have := hk.out; omega, hst.out⟩, HB, BKi, BKr⟩ | exact ⟨2, by first | rfl | (simp; done), ⟨by have := hk.out; omega, hst.out⟩, HB, BKi, BKr⟩ | exact ⟨3, by first | rfl | (simp; done), ⟨by have := hk.out; omega, hst.out⟩, HB, BKi, BKr⟩)))))
   case inr.inr.inr.inr.inr.inr => (rw [zdL l0 a1 i1 u n hu] at hst; have kb : True := trivial; have kc : True := trivial; clear hia hu; (replace hst := aS hst; (first | have q1_ := eqT k1_ | have q1_ := eqF k1_); (first | have q6_ := eqT k6_ | have q6_ := eqF k6_); (first | have q4_ := eqT k4_ | have q4_ := eqF k4_); (first | have q5_ := eqT k5_ | have q5_ := eqF k5_); (first | have q2_ := eqT k2_ | have q2_ := eqF k2_); (first | have q7_ := eqT k7_ | have q7_ := eqF k7_); rcases hun with ⟨rfl, rfl, rfl⟩ | ⟨rfl, rfl, rfl⟩ | ⟨rfl, rfl, rfl⟩ <;> (go_wp2_with (go_at_call 43; refine (yi gi _).mono ?_; rintro e w6 ⟨rfl, hb⟩; replace HB := aS (bs_ HB.out hb); replace BKi := aS (zf BKi.out hb); replace BKr := aS (zf BKr.out hb); clear hb; obtain ⟨xi0, xi1, xi2, xi3, _, _, _, _⟩ := xo BKi.out; obtain ⟨xr0, xr1, xr2, xr3, xr4⟩ := yL BKr.out)) <;> first | (go_ret; obtain rfl := sI hst.out; exact ⟨rfl, HB.out⟩) | (go_roundg k3; (case measure => omega); (case rel => first | exact ⟨1, by first | rfl | (simp; done), ⟨by have := hk.out; omega, hst.out⟩, HB, BKi, BKr⟩ | exact ⟨2, by first | rfl | (simp; done), ⟨by have := hk.out; omega, hst.out⟩, HB, BKi, BKr⟩ | exact ⟨3, by first | rfl | (simp; done), ⟨by have := hk.out; omega, hst.out⟩, HB, BKi, BKr⟩))))
end
end
end Go.Proofs.QP

