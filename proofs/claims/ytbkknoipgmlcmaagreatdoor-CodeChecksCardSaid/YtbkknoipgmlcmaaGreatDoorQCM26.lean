import Derived.LoopN
import Derived.Test.YtbkknoipgmlcmaaGreatDoorQCM25
set_option linter.unusedVariables false
set_option linter.unusedSimpArgs false
set_option maxHeartbeats 8000000
set_option maxRecDepth 100000
namespace Go.Proofs.YtbkknoipgmlcmaaGreatDoor.P
open Go.RowKit Go.Proofs.YtbkknoipgmlcmaaGreatDoorW.PrintWords Go.Proofs.YtbkknoipgmlcmaaGreatDoorW.PrintLast Go.Proofs.YtbkknoipgmlcmaaGreatDoorW.PrintMore
open Go.Proofs.FX
attribute [local go_sem] Instr.index
def okF (u n op lo hi : Int) : Bool := if u = 0 then decide (n = 0) else if u = 3 then (if n < lo then false else if n > hi then false else if op = 19 then !decide (n = 0) else true) else true
theorem okF_cases (u n op lo hi : Int) :
 ((u == 0) = true ∧ (n == 0) = true ∧ (u == 3) = false ∧ True ∧ True ∧ True ∧ okF u n op lo hi = true) ∨ ((u == 0) = true ∧ (n == 0) = false ∧ (u == 3) = false ∧ True ∧ True ∧ True ∧ okF u n op lo hi = false) ∨
 ((u == 0) = false ∧ True ∧ (u == 3) = true ∧ decide (n < lo) = true ∧ True ∧ True ∧ okF u n op lo hi = false) ∨ ((u == 0) = false ∧ True ∧ (u == 3) = true ∧ decide (n < lo) = false ∧ decide (n > hi) = true ∧ True ∧ okF u n op lo hi = false) ∨
 ((u == 0) = false ∧ (n == 0) = true ∧ (u == 3) = true ∧ decide (n < lo) = false ∧ decide (n > hi) = false ∧ (op == 19) = true ∧ okF u n op lo hi = false) ∨ ((u == 0) = false ∧ (n == 0) = false ∧ (u == 3) = true ∧ decide (n < lo) = false ∧ decide (n > hi) = false ∧ (op == 19) = true ∧ okF u n op lo hi = true) ∨
 ((u == 0) = false ∧ True ∧ (u == 3) = true ∧ decide (n < lo) = false ∧ decide (n > hi) = false ∧ (op == 19) = false ∧ okF u n op lo hi = true) ∨ ((u == 0) = false ∧ True ∧ (u == 3) = false ∧ True ∧ True ∧ True ∧ okF u n op lo hi = true) := by
 have e : ∀ a b : Int, (a == b) = decide (a = b) := fun a b => rfl
 simp only [e]
 unfold okF
 by_cases h1 : u = 0
 ·have h3 : ¬ u = 3 := by omega
  by_cases h2 : n = 0 <;> simp [h1, h2]
 by_cases h3 : u = 3
 ·by_cases h4 : n < lo
  ·simp [h3, h4]
  ·by_cases h5 : n > hi
   ·simp [h3, h4, h5]
   ·by_cases h6 : op = 19
    ·by_cases h2 : n = 0
     ·subst h2; simp [h3, h4, h5, h6]
     ·simp [h3, h4, h5, h6, h2]
    ·simp [h3, h4, h5, h6]
 ·simp [h1, h3]
def fF (i0 i1 i2 i3 s1 s2 s3 s5 s6 : Int) : Nat → Bool
 | 0 => okF s1 i1 i0 s5 s6 && (okF s2 i2 i0 s5 s6 && okF s3 i3 i0 s5 s6)
 | 1 => okF s2 i2 i0 s5 s6 && okF s3 i3 i0 s5 s6
 | 2 => okF s3 i3 i0 s5 s6
 | _ => true
def emptyS (i4 : Int) (i5 : Bool) (i6 i7 : List Int) : Bool := decide (i4 = 0) && (!i5 && (i6.isEmpty && i7.isEmpty))
def dgB (l : List Int) : Bool := decide (l.length ≤ 1000) && l.all (fun d => decide (0 ≤ d ∧ d < 4294967296))
theorem dgB_iff {l : List Int} : dgB l = true ↔ l.length ≤ 1000 ∧ dOk l := by
 unfold dgB dOk
 rw [Bool.and_eq_true, decide_eq_true_eq, List.all_eq_true]
 simp only [decide_eq_true_eq]
theorem emptyS_f (i4 : Int) (i5 : Bool) {i6 i7 : List Int} (b6 : i6.length ≤ 1000) (b7 : i7.length ≤ 1000) : code_empty.f i4 i5 i6 i7 = some (emptyS i4 i5 i6 i7) := by
 unfold code_empty.f emptyS
 by_cases h0 : i4 = 0
 ·rw [if_pos h0, dT h0]
  cases i5 with
  | true => rfl
  | false =>
   rw [if_neg Bool.false_ne_true, d64 (by omega) (by omega)]
   congr 1
   cases i6 with
   | nil => cases i7 with
    | nil => rfl
    | cons b l7 => show ((((0 : Nat) : Int) + ((b :: l7).length : Int)) == 0) = false; rw [beq_eq_false_iff_ne]; simp only [List.length_cons]; omega
   | cons a l6 => show ((((a :: l6).length : Int) + (i7.length : Int)) == 0) = false; rw [beq_eq_false_iff_ne]; simp only [List.length_cons]; omega
 ·rw [if_neg h0, dF h0]
  rfl
def code_formed.f (i0 i1 i2 i3 i4 : Int) (i5 : Bool) (i6 i7 : List Int) (s0 : ByteArray) (s1 s2 s3 : Int) (s4 : Bool) (s5 s6 : Int) : Option Bool :=
 if dgB i6 = true ∧ dgB i7 = true then some ((if s4 = true then decide (i4 = 0) && ratS i4 i5 i6 i7 else emptyS i4 i5 i6 i7) && fF i0 i1 i2 i3 s1 s2 s3 s5 s6 0) else none
theorem code_formed.calls (i0 i1 i2 i3 i4 : Int) (i5 : Bool) (A6 : Option Addr) (c6 : Nat) (i6 : List Int) (A7 : Option Addr) (c7 : Nat) (i7 : List Int) (s0 : ByteArray) (s1 s2 s3 : Int) (s4 : Bool) (s5 s6 : Int) (r : Bool) (w : World) (hG : GW w) (hr6 : Kd.C (Kd.int .u32) w A6 i6.length i6) (hc6 : i6.length ≤ c6) (hr7 : Kd.C (Kd.int .u32) w A7 i7.length i7) (hc7 : i7.length ≤ c7) (h : code_formed.f i0 i1 i2 i3 i4 i5 i6 i7 s0 s1 s2 s3 s4 s5 s6 = some r) :
 Calls Tryz.prog 93 #[.agg #[.int .i64 i0, .int .i64 i1, .int .i64 i2, .int .i64 i3, .int .i64 i4, .bool i5, .slice A6 i6.length c6, .slice A7 i7.length c7], .agg #[.string s0, .int .i64 s1, .int .i64 s2, .int .i64 s3, .bool s4, .int .i64 s5, .int .i64 s6]] w fun e w' => e = .returned (.bool r) ∧ Below w.heap.size w w' := by
 have hu63 := Tryz.underlying63
 have hu72 := Tryz.underlying72
 have hu61 := Tryz.underlying61
 have hu75 := Tryz.underlying75
 have hu78 := Tryz.underlying78
 have hu77 := Tryz.underlying77
 have hu70 := Tryz.underlying70
 have HB := aS (Below.refl w.heap.size w)
 have HR6 := aS hr6
 have HR7 := aS hr7
 have HC := aS (And.intro hc6 hc7)
 unfold code_formed.f at h
 by_cases hd : dgB i6 = true ∧ dgB i7 = true
 case neg => rw [if_neg hd] at h; cases h
 rw [if_pos hd] at h
 have d6 := dgB_iff.1 hd.1
 have d7 := dgB_iff.1 hd.2
 have HD := aS (show i6.length ≤ 1000 ∧ i7.length ≤ 1000 ∧ dOk i6 ∧ dOk i7 from ⟨d6.1, d7.1, d6.2, d7.2⟩)
 have he := emptyS_f i4 i5 d6.1 d7.1
 replace h := sI h
 clear hr6 hr7 hc6 hc7 hG hd d6 d7
 cases s4 with
 | false =>
  rw [if_neg Bool.false_ne_true] at h
  have hte := aS he
  clear he
  generalize emptyS i4 i5 i6 i7 = te at h hte
  cases te with
  | false =>
   have hR : Aside0 (false = r) := ⟨h⟩
   clear h
   go_enter Tryz.func93, Tryz.ntmps93
   go_wp2_with (first | ((with_reducible refine gate_dst (N := 2) rfl ?_); refine box_event ?hg (N := 2) ?hd (cs := #[.int .i64 i0, .int .i64 i1, .int .i64 i2, .int .i64 i3, .int .i64 i4, .bool i5, .slice A6 i6.length c6, .slice A7 i7.length c7]) (t := 63) ?hr ?_; (case hd => rfl); (case hg => rfl); (case hr => first | (go_simp; done) | (go_simp; rfl)); intro gi hg w2 hbox hb; have BKi := aS hbox; replace HB := aS (bs_ HB.out hb); clear hg hb hbox) | ((with_reducible refine gate_dst (N := 3) rfl ?_); refine box_event ?hg (N := 3) ?hd (cs := #[.string s0, .int .i64 s1, .int .i64 s2, .int .i64 s3, .bool false, .int .i64 s5, .int .i64 s6]) (t := 72) ?hr ?_; (case hd => rfl); (case hg => rfl); (case hr => first | (go_simp; done) | (go_simp; rfl)); intro gs hg w2 hbox hb; have BKs := aS hbox; replace HB := aS (bs_ HB.out hb); replace BKi := aS (blk_below BKi.out hb); clear hg hb hbox; (try clear xs0 xs1 xs2 xs3 xs4 xs5 xs6 xi0 xi1 xi2 xi3 xi4 xi5 xi6 xi7); obtain ⟨xi0, xi1, xi2, xi3, xi4, xi5, xi6, xi7⟩ := cells8 BKi.out; obtain ⟨xs0, xs1, xs2, xs3, xs4, xs5, xs6⟩ := cells7 BKs.out) | (go_at_call 141; refine (code_empty.calls i4 i5 A6 c6 i6 A7 c7 i7 _ _ (Kd.C_below HR6.out HB.out) HC.out.1 (Kd.C_below HR7.out HB.out) HC.out.2 hte.out).mono ?_; rintro e w4 ⟨rfl, hb⟩; replace HB := aS (bs_ HB.out hb); replace BKi := aS (blk_below BKi.out hb); replace BKs := aS (blk_below BKs.out hb); clear hb; (try clear xs0 xs1 xs2 xs3 xs4 xs5 xs6 xi0 xi1 xi2 xi3 xi4 xi5 xi6 xi7); obtain ⟨xi0, xi1, xi2, xi3, xi4, xi5, xi6, xi7⟩ := cells8 BKi.out; obtain ⟨xs0, xs1, xs2, xs3, xs4, xs5, xs6⟩ := cells7 BKs.out))
   go_ret
   (obtain rfl := hR.out; exact ⟨rfl, HB.out⟩)
  | true =>
   have hR : Aside0 (fF i0 i1 i2 i3 s1 s2 s3 s5 s6 0 = r) := ⟨h⟩
   clear h
   go_enter Tryz.func93, Tryz.ntmps93
   go_wp2_with (first | ((with_reducible refine gate_dst (N := 2) rfl ?_); refine box_event ?hg (N := 2) ?hd (cs := #[.int .i64 i0, .int .i64 i1, .int .i64 i2, .int .i64 i3, .int .i64 i4, .bool i5, .slice A6 i6.length c6, .slice A7 i7.length c7]) (t := 63) ?hr ?_; (case hd => rfl); (case hg => rfl); (case hr => first | (go_simp; done) | (go_simp; rfl)); intro gi hg w2 hbox hb; have BKi := aS hbox; replace HB := aS (bs_ HB.out hb); clear hg hb hbox) | ((with_reducible refine gate_dst (N := 3) rfl ?_); refine box_event ?hg (N := 3) ?hd (cs := #[.string s0, .int .i64 s1, .int .i64 s2, .int .i64 s3, .bool false, .int .i64 s5, .int .i64 s6]) (t := 72) ?hr ?_; (case hd => rfl); (case hg => rfl); (case hr => first | (go_simp; done) | (go_simp; rfl)); intro gs hg w2 hbox hb; have BKs := aS hbox; replace HB := aS (bs_ HB.out hb); replace BKi := aS (blk_below BKi.out hb); clear hg hb hbox; (try clear xs0 xs1 xs2 xs3 xs4 xs5 xs6 xi0 xi1 xi2 xi3 xi4 xi5 xi6 xi7); obtain ⟨xi0, xi1, xi2, xi3, xi4, xi5, xi6, xi7⟩ := cells8 BKi.out; obtain ⟨xs0, xs1, xs2, xs3, xs4, xs5, xs6⟩ := cells7 BKs.out) | (go_at_call 141; refine (code_empty.calls i4 i5 A6 c6 i6 A7 c7 i7 _ _ (Kd.C_below HR6.out HB.out) HC.out.1 (Kd.C_below HR7.out HB.out) HC.out.2 hte.out).mono ?_; rintro e w4 ⟨rfl, hb⟩; replace HB := aS (bs_ HB.out hb); replace BKi := aS (blk_below BKi.out hb); replace BKs := aS (blk_below BKs.out hb); clear hb; (try clear xs0 xs1 xs2 xs3 xs4 xs5 xs6 xi0 xi1 xi2 xi3 xi4 xi5 xi6 xi7); obtain ⟨xi0, xi1, xi2, xi3, xi4, xi5, xi6, xi7⟩ := cells8 BKi.out; obtain ⟨xs0, xs1, xs2, xs3, xs4, xs5, xs6⟩ := cells7 BKs.out) | (go_at_call 42; refine (uses_calls _ _ _ _ _ _ _ _).mono ?_; rintro e w5 ⟨rfl, hb⟩; replace HB := aS (bs_ HB.out hb); replace BKi := aS (blk_below BKi.out hb); replace BKs := aS (blk_below BKs.out hb); clear hb; (try clear xs0 xs1 xs2 xs3 xs4 xs5 xs6 xi0 xi1 xi2 xi3 xi4 xi5 xi6 xi7); obtain ⟨xi0, xi1, xi2, xi3, xi4, xi5, xi6, xi7⟩ := cells8 BKi.out; obtain ⟨xs0, xs1, xs2, xs3, xs4, xs5, xs6⟩ := cells7 BKs.out))
   (try clear k0 k0_)
   (try clear hte)
   go_loopg [35] 3 (fun kq v35 w' => ∃ (j : Nat) (b4 : Bool), v35 = .int .i64 (j : Int) ∧ Aside0 (kq + j = 3 ∧ fF i0 i1 i2 i3 s1 s2 s3 s5 s6 j = r) ∧ Aside0 (Below w.heap.size w w') ∧ Aside0 (w'.heap[gi]? = some (.cells #[.int .i64 i0, .int .i64 i1, .int .i64 i2, .int .i64 i3, .int .i64 i4, .bool i5, .slice A6 i6.length c6, .slice A7 i7.length c7] 63 (0, 0))) ∧ Aside0 (w'.heap[gs]? = some (.cells #[.string s0, .int .i64 s1, .int .i64 s2, .int .i64 s3, .bool b4, .int .i64 s5, .int .i64 s6] 72 (0, 0))))
   case atStart => exact ⟨0, _, by first | rfl | (simp; done), ⟨rfl, hR.out⟩, HB, BKi, BKs⟩
   case round =>
    (try clear xs0 xs1 xs2 xs3 xs4 xs5 xs6 xi0 xi1 xi2 xi3 xi4 xi5 xi6 xi7)
    clear HB BKi BKs hR
    obtain ⟨j, b4, rfl, hj, HB, BKi, BKs⟩ := hrel
    (try clear xs0 xs1 xs2 xs3 xs4 xs5 xs6 xi0 xi1 xi2 xi3 xi4 xi5 xi6 xi7); obtain ⟨xi0, xi1, xi2, xi3, xi4, xi5, xi6, xi7⟩ := cells8 BKi.out; obtain ⟨xs0, xs1, xs2, xs3, xs4, xs5, xs6⟩ := cells7 BKs.out
    cases gk with
    | zero =>
     obtain rfl : j = 3 := by have := hj.out.1; omega
     go_wp2
     go_ret
     (obtain rfl := hj.out.2; exact ⟨rfl, HB.out⟩)
    | succ k3 =>
     obtain ⟨u, n, hun⟩ : ∃ u n, (j = 0 ∧ s1 = u ∧ i1 = n) ∨ (j = 1 ∧ s2 = u ∧ i2 = n) ∨ (j = 2 ∧ s3 = u ∧ i3 = n) := by
      have h3 := hj.out.1
      have h4 : j = 0 ∨ j = 1 ∨ j = 2 := by omega
      rcases h4 with h4 | h4 | h4
      ·exact ⟨_, _, .inl ⟨h4, rfl, rfl⟩⟩
      ·exact ⟨_, _, .inr (.inl ⟨h4, rfl, rfl⟩)⟩
      ·exact ⟨_, _, .inr (.inr ⟨h4, rfl, rfl⟩)⟩
     have hst : Aside0 ((okF u n i0 s5 s6 && fF i0 i1 i2 i3 s1 s2 s3 s5 s6 (j + 1)) = r) := ⟨by
      rw [← hj.out.2]
      rcases hun with ⟨rfl, rfl, rfl⟩ | ⟨rfl, rfl, rfl⟩ | ⟨rfl, rfl, rfl⟩ <;> simp [fF]⟩
     have hk := aS hj.out.1
     clear hj
     rcases okF_cases u n i0 s5 s6 with ⟨k1, k2, k3_, k4, k5, k6, hok⟩ | ⟨k1, k2, k3_, k4, k5, k6, hok⟩ | ⟨k1, k2, k3_, k4, k5, k6, hok⟩ | ⟨k1, k2, k3_, k4, k5, k6, hok⟩ | ⟨k1, k2, k3_, k4, k5, k6, hok⟩ | ⟨k1, k2, k3_, k4, k5, k6, hok⟩ | ⟨k1, k2, k3_, k4, k5, k6, hok⟩ | ⟨k1, k2, k3_, k4, k5, k6, hok⟩ <;> rw [hok] at hst <;> clear hok <;> (first | have q1 := eqT k1 | have q1 := eqF k1) <;> (first | have q2 := eqT k2 | have q2 := eqF k2 | skip) <;> (first | have q3 := eqT k3_ | have q3 := eqF k3_) <;> (first | have q6 := eqT k6 | have q6 := eqF k6 | skip) <;> rcases hun with ⟨rfl, rfl, rfl⟩ | ⟨rfl, rfl, rfl⟩ | ⟨rfl, rfl, rfl⟩
     all_goals (go_wp2_with (go_at_call 43; refine (fields_calls gi _).mono ?_; rintro e w6 ⟨rfl, hb⟩; replace HB := aS (bs_ HB.out hb); replace BKi := aS (blk_below BKi.out hb); replace BKs := aS (blk_below BKs.out hb); clear hb; (try clear xs0 xs1 xs2 xs3 xs4 xs5 xs6 xi0 xi1 xi2 xi3 xi4 xi5 xi6 xi7); obtain ⟨xi0, xi1, xi2, xi3, xi4, xi5, xi6, xi7⟩ := cells8 BKi.out; obtain ⟨xs0, xs1, xs2, xs3, xs4, xs5, xs6⟩ := cells7 BKs.out))
     all_goals first
      | (go_ret; obtain rfl := hst.out; exact ⟨rfl, HB.out⟩)
      | (go_roundg k3; (case measure => omega); (case rel => first | exact ⟨1, b4, by first | rfl | (simp; done), ⟨by have := hk.out; omega, hst.out⟩, HB, BKi, BKs⟩ | exact ⟨2, b4, by first | rfl | (simp; done), ⟨by have := hk.out; omega, hst.out⟩, HB, BKi, BKs⟩ | exact ⟨3, b4, by first | rfl | (simp; done), ⟨by have := hk.out; omega, hst.out⟩, HB, BKi, BKs⟩))
 | true =>
  rw [if_pos rfl] at h
  clear he
  by_cases h0 : i4 = 0; rotate_left
  ·have k0 : (i4 == 0) = false := beq_eq_false_iff_ne.2 h0
   have k0_ : (i4 = 0) = False := eq_false h0
   rw [dF h0, Bool.false_and] at h
   have hR : Aside0 (false = r) := ⟨h⟩
   clear h h0
   go_enter Tryz.func93, Tryz.ntmps93
   go_wp2_with (first | ((with_reducible refine gate_dst (N := 2) rfl ?_); refine box_event ?hg (N := 2) ?hd (cs := #[.int .i64 i0, .int .i64 i1, .int .i64 i2, .int .i64 i3, .int .i64 i4, .bool i5, .slice A6 i6.length c6, .slice A7 i7.length c7]) (t := 63) ?hr ?_; (case hd => rfl); (case hg => rfl); (case hr => first | (go_simp; done) | (go_simp; rfl)); intro gi hg w2 hbox hb; have BKi := aS hbox; replace HB := aS (bs_ HB.out hb); clear hg hb hbox) | ((with_reducible refine gate_dst (N := 3) rfl ?_); refine box_event ?hg (N := 3) ?hd (cs := #[.string s0, .int .i64 s1, .int .i64 s2, .int .i64 s3, .bool true, .int .i64 s5, .int .i64 s6]) (t := 72) ?hr ?_; (case hd => rfl); (case hg => rfl); (case hr => first | (go_simp; done) | (go_simp; rfl)); intro gs hg w2 hbox hb; have BKs := aS hbox; replace HB := aS (bs_ HB.out hb); replace BKi := aS (blk_below BKi.out hb); clear hg hb hbox; (try clear xs0 xs1 xs2 xs3 xs4 xs5 xs6 xi0 xi1 xi2 xi3 xi4 xi5 xi6 xi7); obtain ⟨xi0, xi1, xi2, xi3, xi4, xi5, xi6, xi7⟩ := cells8 BKi.out; obtain ⟨xs0, xs1, xs2, xs3, xs4, xs5, xs6⟩ := cells7 BKs.out))
   go_ret
   (obtain rfl := hR.out; exact ⟨rfl, HB.out⟩)
  have k0 : (i4 == 0) = true := beq_iff_eq.2 h0
  have k0_ : (i4 = 0) = True := eq_true h0
  rw [dT h0, Bool.true_and] at h
  have hte : Aside0 (ratS i4 i5 i6 i7 = ratS i4 i5 i6 i7) := ⟨rfl⟩
  generalize hq : ratS i4 i5 i6 i7 = te at h
  replace hte := aS hq
  clear hq h0
  cases te with
  | false =>
   have hR : Aside0 (false = r) := ⟨h⟩
   clear h
   go_enter Tryz.func93, Tryz.ntmps93
   go_wp2_with (first | ((with_reducible refine gate_dst (N := 2) rfl ?_); refine box_event ?hg (N := 2) ?hd (cs := #[.int .i64 i0, .int .i64 i1, .int .i64 i2, .int .i64 i3, .int .i64 i4, .bool i5, .slice A6 i6.length c6, .slice A7 i7.length c7]) (t := 63) ?hr ?_; (case hd => rfl); (case hg => rfl); (case hr => first | (go_simp; done) | (go_simp; rfl)); intro gi hg w2 hbox hb; have BKi := aS hbox; replace HB := aS (bs_ HB.out hb); clear hg hb hbox) | ((with_reducible refine gate_dst (N := 3) rfl ?_); refine box_event ?hg (N := 3) ?hd (cs := #[.string s0, .int .i64 s1, .int .i64 s2, .int .i64 s3, .bool true, .int .i64 s5, .int .i64 s6]) (t := 72) ?hr ?_; (case hd => rfl); (case hg => rfl); (case hr => first | (go_simp; done) | (go_simp; rfl)); intro gs hg w2 hbox hb; have BKs := aS hbox; replace HB := aS (bs_ HB.out hb); replace BKi := aS (blk_below BKi.out hb); clear hg hb hbox; (try clear xs0 xs1 xs2 xs3 xs4 xs5 xs6 xi0 xi1 xi2 xi3 xi4 xi5 xi6 xi7); obtain ⟨xi0, xi1, xi2, xi3, xi4, xi5, xi6, xi7⟩ := cells8 BKi.out; obtain ⟨xs0, xs1, xs2, xs3, xs4, xs5, xs6⟩ := cells7 BKs.out) | (go_at_call 140; (with_reducible refine (isRat_calls i4 i5 A6 c6 i6 A7 c7 i7 _ (Kd.C_below HR6.out HB.out) HC.out.1 (Kd.C_below HR7.out HB.out) HC.out.2 HD.out.1 HD.out.2.1 HD.out.2.2.1 HD.out.2.2.2).mono ?_); rw [hte.out]; rintro e w4 ⟨rfl, hb⟩; replace HB := aS (bs_ HB.out hb); replace BKi := aS (blk_below BKi.out hb); replace BKs := aS (blk_below BKs.out hb); clear hb; (try clear xs0 xs1 xs2 xs3 xs4 xs5 xs6 xi0 xi1 xi2 xi3 xi4 xi5 xi6 xi7); obtain ⟨xi0, xi1, xi2, xi3, xi4, xi5, xi6, xi7⟩ := cells8 BKi.out; obtain ⟨xs0, xs1, xs2, xs3, xs4, xs5, xs6⟩ := cells7 BKs.out))
   go_ret
   (obtain rfl := hR.out; exact ⟨rfl, HB.out⟩)
  | true =>
   have hR : Aside0 (fF i0 i1 i2 i3 s1 s2 s3 s5 s6 0 = r) := ⟨h⟩
   clear h
   go_enter Tryz.func93, Tryz.ntmps93
   go_wp2_with (first | ((with_reducible refine gate_dst (N := 2) rfl ?_); refine box_event ?hg (N := 2) ?hd (cs := #[.int .i64 i0, .int .i64 i1, .int .i64 i2, .int .i64 i3, .int .i64 i4, .bool i5, .slice A6 i6.length c6, .slice A7 i7.length c7]) (t := 63) ?hr ?_; (case hd => rfl); (case hg => rfl); (case hr => first | (go_simp; done) | (go_simp; rfl)); intro gi hg w2 hbox hb; have BKi := aS hbox; replace HB := aS (bs_ HB.out hb); clear hg hb hbox) | ((with_reducible refine gate_dst (N := 3) rfl ?_); refine box_event ?hg (N := 3) ?hd (cs := #[.string s0, .int .i64 s1, .int .i64 s2, .int .i64 s3, .bool true, .int .i64 s5, .int .i64 s6]) (t := 72) ?hr ?_; (case hd => rfl); (case hg => rfl); (case hr => first | (go_simp; done) | (go_simp; rfl)); intro gs hg w2 hbox hb; have BKs := aS hbox; replace HB := aS (bs_ HB.out hb); replace BKi := aS (blk_below BKi.out hb); clear hg hb hbox; (try clear xs0 xs1 xs2 xs3 xs4 xs5 xs6 xi0 xi1 xi2 xi3 xi4 xi5 xi6 xi7); obtain ⟨xi0, xi1, xi2, xi3, xi4, xi5, xi6, xi7⟩ := cells8 BKi.out; obtain ⟨xs0, xs1, xs2, xs3, xs4, xs5, xs6⟩ := cells7 BKs.out) | (go_at_call 140; (with_reducible refine (isRat_calls i4 i5 A6 c6 i6 A7 c7 i7 _ (Kd.C_below HR6.out HB.out) HC.out.1 (Kd.C_below HR7.out HB.out) HC.out.2 HD.out.1 HD.out.2.1 HD.out.2.2.1 HD.out.2.2.2).mono ?_); rw [hte.out]; rintro e w4 ⟨rfl, hb⟩; replace HB := aS (bs_ HB.out hb); replace BKi := aS (blk_below BKi.out hb); replace BKs := aS (blk_below BKs.out hb); clear hb; (try clear xs0 xs1 xs2 xs3 xs4 xs5 xs6 xi0 xi1 xi2 xi3 xi4 xi5 xi6 xi7); obtain ⟨xi0, xi1, xi2, xi3, xi4, xi5, xi6, xi7⟩ := cells8 BKi.out; obtain ⟨xs0, xs1, xs2, xs3, xs4, xs5, xs6⟩ := cells7 BKs.out) | (go_at_call 42; refine (uses_calls _ _ _ _ _ _ _ _).mono ?_; rintro e w5 ⟨rfl, hb⟩; replace HB := aS (bs_ HB.out hb); replace BKi := aS (blk_below BKi.out hb); replace BKs := aS (blk_below BKs.out hb); clear hb; (try clear xs0 xs1 xs2 xs3 xs4 xs5 xs6 xi0 xi1 xi2 xi3 xi4 xi5 xi6 xi7); obtain ⟨xi0, xi1, xi2, xi3, xi4, xi5, xi6, xi7⟩ := cells8 BKi.out; obtain ⟨xs0, xs1, xs2, xs3, xs4, xs5, xs6⟩ := cells7 BKs.out))
   (try clear k0 k0_)
   (try clear hte)
   go_loopg [35] 3 (fun kq v35 w' => ∃ (j : Nat) (b4 : Bool), v35 = .int .i64 (j : Int) ∧ Aside0 (kq + j = 3 ∧ fF i0 i1 i2 i3 s1 s2 s3 s5 s6 j = r) ∧ Aside0 (Below w.heap.size w w') ∧ Aside0 (w'.heap[gi]? = some (.cells #[.int .i64 i0, .int .i64 i1, .int .i64 i2, .int .i64 i3, .int .i64 i4, .bool i5, .slice A6 i6.length c6, .slice A7 i7.length c7] 63 (0, 0))) ∧ Aside0 (w'.heap[gs]? = some (.cells #[.string s0, .int .i64 s1, .int .i64 s2, .int .i64 s3, .bool b4, .int .i64 s5, .int .i64 s6] 72 (0, 0))))
   case atStart => exact ⟨0, _, by first | rfl | (simp; done), ⟨rfl, hR.out⟩, HB, BKi, BKs⟩
   case round =>
    (try clear xs0 xs1 xs2 xs3 xs4 xs5 xs6 xi0 xi1 xi2 xi3 xi4 xi5 xi6 xi7)
    clear HB BKi BKs hR
    obtain ⟨j, b4, rfl, hj, HB, BKi, BKs⟩ := hrel
    (try clear xs0 xs1 xs2 xs3 xs4 xs5 xs6 xi0 xi1 xi2 xi3 xi4 xi5 xi6 xi7); obtain ⟨xi0, xi1, xi2, xi3, xi4, xi5, xi6, xi7⟩ := cells8 BKi.out; obtain ⟨xs0, xs1, xs2, xs3, xs4, xs5, xs6⟩ := cells7 BKs.out
    cases gk with
    | zero =>
     obtain rfl : j = 3 := by have := hj.out.1; omega
     go_wp2
     go_ret
     (obtain rfl := hj.out.2; exact ⟨rfl, HB.out⟩)
    | succ k3 =>
     obtain ⟨u, n, hun⟩ : ∃ u n, (j = 0 ∧ s1 = u ∧ i1 = n) ∨ (j = 1 ∧ s2 = u ∧ i2 = n) ∨ (j = 2 ∧ s3 = u ∧ i3 = n) := by
      have h3 := hj.out.1
      have h4 : j = 0 ∨ j = 1 ∨ j = 2 := by omega
      rcases h4 with h4 | h4 | h4
      ·exact ⟨_, _, .inl ⟨h4, rfl, rfl⟩⟩
      ·exact ⟨_, _, .inr (.inl ⟨h4, rfl, rfl⟩)⟩
      ·exact ⟨_, _, .inr (.inr ⟨h4, rfl, rfl⟩)⟩
     have hst : Aside0 ((okF u n i0 s5 s6 && fF i0 i1 i2 i3 s1 s2 s3 s5 s6 (j + 1)) = r) := ⟨by
      rw [← hj.out.2]
      rcases hun with ⟨rfl, rfl, rfl⟩ | ⟨rfl, rfl, rfl⟩ | ⟨rfl, rfl, rfl⟩ <;> simp [fF]⟩
     have hk := aS hj.out.1
     clear hj
     rcases okF_cases u n i0 s5 s6 with ⟨k1, k2, k3_, k4, k5, k6, hok⟩ | ⟨k1, k2, k3_, k4, k5, k6, hok⟩ | ⟨k1, k2, k3_, k4, k5, k6, hok⟩ | ⟨k1, k2, k3_, k4, k5, k6, hok⟩ | ⟨k1, k2, k3_, k4, k5, k6, hok⟩ | ⟨k1, k2, k3_, k4, k5, k6, hok⟩ | ⟨k1, k2, k3_, k4, k5, k6, hok⟩ | ⟨k1, k2, k3_, k4, k5, k6, hok⟩ <;> rw [hok] at hst <;> clear hok <;> (first | have q1 := eqT k1 | have q1 := eqF k1) <;> (first | have q2 := eqT k2 | have q2 := eqF k2 | skip) <;> (first | have q3 := eqT k3_ | have q3 := eqF k3_) <;> (first | have q6 := eqT k6 | have q6 := eqF k6 | skip) <;> rcases hun with ⟨rfl, rfl, rfl⟩ | ⟨rfl, rfl, rfl⟩ | ⟨rfl, rfl, rfl⟩
     all_goals (go_wp2_with (go_at_call 43; refine (fields_calls gi _).mono ?_; rintro e w6 ⟨rfl, hb⟩; replace HB := aS (bs_ HB.out hb); replace BKi := aS (blk_below BKi.out hb); replace BKs := aS (blk_below BKs.out hb); clear hb; (try clear xs0 xs1 xs2 xs3 xs4 xs5 xs6 xi0 xi1 xi2 xi3 xi4 xi5 xi6 xi7); obtain ⟨xi0, xi1, xi2, xi3, xi4, xi5, xi6, xi7⟩ := cells8 BKi.out; obtain ⟨xs0, xs1, xs2, xs3, xs4, xs5, xs6⟩ := cells7 BKs.out))
     all_goals first
      | (go_ret; obtain rfl := hst.out; exact ⟨rfl, HB.out⟩)
      | (go_roundg k3; (case measure => omega); (case rel => first | exact ⟨1, b4, by first | rfl | (simp; done), ⟨by have := hk.out; omega, hst.out⟩, HB, BKi, BKs⟩ | exact ⟨2, b4, by first | rfl | (simp; done), ⟨by have := hk.out; omega, hst.out⟩, HB, BKi, BKs⟩ | exact ⟨3, b4, by first | rfl | (simp; done), ⟨by have := hk.out; omega, hst.out⟩, HB, BKi, BKs⟩))
end Go.Proofs.YtbkknoipgmlcmaaGreatDoor.P

