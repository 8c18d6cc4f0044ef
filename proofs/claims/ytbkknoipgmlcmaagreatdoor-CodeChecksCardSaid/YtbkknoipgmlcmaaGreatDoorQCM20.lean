import Derived.WalkKit
import Derived.KernelRfl
import Derived.Laws.Externs
import Derived.Laws.Cover3
import Derived.Laws.BitsLemmas
import Derived.Test.YtbkknoipgmlcmaaGreatDoorQCM8
import Derived.Test.YtbkknoipgmlcmaaGreatDoorQCM18
set_option linter.unusedVariables false
set_option linter.unusedSimpArgs false
set_option maxHeartbeats 8000000
set_option maxRecDepth 100000
namespace Go.Proofs.YtbkknoipgmlcmaaGreatDoor.P
open Go.RowKit Go.Proofs.YtbkknoipgmlcmaaGreatDoorW.PrintWords Go.Proofs.YtbkknoipgmlcmaaGreatDoorW.PrintLast Go.Proofs.YtbkknoipgmlcmaaGreatDoorW.PrintMore
open Go.Proofs.FX
theorem run_eql_slice_nil {P : Program} (w : World) (t e : TypeId) (a : Option Addr) (l c : Nat) (h : P.underlying t = some (.slice e)) : (binOp .eql t (.slice a l c) (.slice none 0 0)).run P w = .ok (.bool a.isNone) w := by
 simp only [binOp]
 simp [run_equal_slice_nil w t e a l c h]
theorem clone_none (c : Nat) (w : World) : Calls Tryz.prog 59 #[.slice none 0 c] w fun e w' => e = .returned (.slice none 0 0) ∧ Below w.heap.size w w' := by
 have hu30 := Tryz.underlying30
 have he := run_eql_slice_nil (P := Tryz.prog) w 30 5 none 0 c hu30
 go_enter Tryz.func59, Tryz.ntmps59
 go_wp2
 refine bodyPost_ret (by simp [results, Tryz.results59, go_sem]) rfl ⟨rfl, Below.refl _ _⟩
theorem clone_some (ad : Addr) (c : Nat) (l : List Int) (w : World) (hr : Kd.C (Kd.int .u8) w (some ad) l.length l) (hl : l.length ≤ 4000000) : Calls Tryz.prog 59 #[.slice (some ad) l.length c] w fun e w' => ∃ v, e = .returned v ∧ Kd.R (Kd.int .u8) 5 w' w.heap.size (fun _ => True) v l ∧ Below w.heap.size w w' := by
 have hu30 := Tryz.underlying30
 obtain ⟨i0, hi, hz0, hz1, hz2⟩ := info_parts info5
 have he := run_eql_slice_nil (P := Tryz.prog) w 30 5 (some ad) l.length c hu30
 go_enter Tryz.func59, Tryz.ntmps59
 go_wp2_with (at_builtin; refine wpList_append_own _ rfl _ _ 30 rfl w.heap.size 5 i0 (.int .u8 0) 1 1 Tryz.underlying30 hi hz0 hz1 hz2 rfl (by decide) (.slice (some ⟨w.heap.size, 0, none⟩) 0 0) 0 [] rfl ?c0 ad l.length c (l.map (Value.int .u8)) rfl (by simp) ?c1 ?c2 ?c3 ?c4 ?c5 ?_)
 case c0 => exact ⟨rfl, .inr ⟨w.heap.size, 0, #[], rfl, Nat.le_refl _, heap_alloc_new w _, Nat.le_refl _, by decide, rfl, rfl⟩⟩
 case c1 =>
  intro j u hj
  have hjl : j < l.length := by
   rcases Nat.lt_or_ge j l.length with h' | h'
   ·exact h'
   ·rw [List.getElem?_eq_none (by rw [List.length_map]; exact h')] at hj
    cases hj
  obtain ⟨ad', he', hc⟩ := (Kd.reads_of_C (enc := Value.int .u8) (d := (0 : Int)) (h1 := fun _ => rfl) hr).2.2 (by omega)
  injection he' with he'
  subst he'
  rw [List.getElem?_map, List.getElem?_eq_getElem hjl] at hj
  simp only [Option.map_some, Option.some.injEq] at hj
  subst hj
  refine pw_cell_below (below_alloc (Below.refl _ _) _) ?_
  rw [hc j (by omega)]
  simp [List.getD_eq_getElem?_getD, List.getElem?_eq_getElem hjl]
 case c2 =>
  intro u hu
  obtain ⟨x, _, rfl⟩ := List.mem_map.1 hu
  rfl
 case c3 => unfold maxLen; omega
 case c4 => omega
 case c5 => exact (below_alloc (Below.refl w.heap.size w) _).size
 intro v1 w1 hown hg _
 go_wp2
 refine bodyPost_ret (by simp [results, Tryz.results59, go_sem]) rfl ⟨v1, rfl, Kd.R_of_own (enc := Value.int .u8) (by simpa [encs] using hown) (fun _ _ => trivial), (below_alloc (Below.refl w.heap.size w) _).grown hg (below_alloc (Below.refl w.heap.size w) _).size (fun k hk => by simp [Value.ownBlock] at hk; omega)⟩
theorem clone_calls (A : Option Addr) (c : Nat) (l : List Int) (w : World) (hr : Kd.C (Kd.int .u8) w A l.length l) (hl : l.length ≤ 4000000) : Calls Tryz.prog 59 #[.slice A l.length c] w fun e w' => ∃ v, e = .returned v ∧ Kd.R (Kd.int .u8) 5 w' w.heap.size (fun _ => True) v l ∧ Below w.heap.size w w' := by
 cases A with
 | some ad => exact clone_some ad c l w hr hl
 | none =>
  have h0 : l = [] := by
   cases l with
   | nil => rfl
   | cons x xs =>
    obtain ⟨ad, h, _⟩ := hr.2.2 (by simp)
    cases h
  subst h0
  refine (clone_none c w).mono ?_
  rintro e w' ⟨rfl, hb⟩
  exact ⟨_, rfl, Kd.R_nil _ _ _ _ _, hb⟩
theorem clone4_none (c : Nat) (w : World) : Calls Tryz.prog 189 #[.slice none 0 c] w fun e w' => e = .returned (.slice none 0 0) ∧ Below w.heap.size w w' := by
 have hu59 := Tryz.underlying59
 have he := run_eql_slice_nil (P := Tryz.prog) w 59 145 none 0 c hu59
 go_enter Tryz.func189, Tryz.ntmps189
 go_wp2
 refine bodyPost_ret (by simp [results, Tryz.results189, go_sem]) rfl ⟨rfl, Below.refl _ _⟩
theorem clone4_some (ad : Addr) (c : Nat) (l : List Int) (w : World) (hr : Kd.C (Kd.int .u32) w (some ad) l.length l) (hl : l.length ≤ 4000000) : Calls Tryz.prog 189 #[.slice (some ad) l.length c] w fun e w' => ∃ v, e = .returned v ∧ Kd.R (Kd.int .u32) 145 w' w.heap.size (fun _ => True) v l ∧ Below w.heap.size w w' := by
 have hu59 := Tryz.underlying59
 obtain ⟨i0, hi, hz0, hz1, hz2⟩ := info_parts info145
 have he := run_eql_slice_nil (P := Tryz.prog) w 59 145 (some ad) l.length c hu59
 go_enter Tryz.func189, Tryz.ntmps189
 go_wp2_with (at_builtin; refine wpList_append_own _ rfl _ _ 59 rfl w.heap.size 145 i0 (.int .u32 0) 1 4 Tryz.underlying59 hi hz0 hz1 hz2 rfl (by decide) (.slice (some ⟨w.heap.size, 0, none⟩) 0 0) 0 [] rfl ?c0 ad l.length c (l.map (Value.int .u32)) rfl (by simp) ?c1 ?c2 ?c3 ?c4 ?c5 ?_)
 case c0 => exact ⟨rfl, .inr ⟨w.heap.size, 0, #[], rfl, Nat.le_refl _, heap_alloc_new w _, Nat.le_refl _, by decide, rfl, rfl⟩⟩
 case c1 =>
  intro j u hj
  have hjl : j < l.length := by
   rcases Nat.lt_or_ge j l.length with h' | h'
   ·exact h'
   ·rw [List.getElem?_eq_none (by rw [List.length_map]; exact h')] at hj
    cases hj
  obtain ⟨ad', he', hc⟩ := (Kd.reads_of_C (enc := Value.int .u32) (d := (0 : Int)) (h1 := fun _ => rfl) hr).2.2 (by omega)
  injection he' with he'
  subst he'
  rw [List.getElem?_map, List.getElem?_eq_getElem hjl] at hj
  simp only [Option.map_some, Option.some.injEq] at hj
  subst hj
  refine pw_cell_below (below_alloc (Below.refl _ _) _) ?_
  rw [hc j (by omega)]
  simp [List.getD_eq_getElem?_getD, List.getElem?_eq_getElem hjl]
 case c2 =>
  intro u hu
  obtain ⟨x, _, rfl⟩ := List.mem_map.1 hu
  rfl
 case c3 => unfold maxLen; omega
 case c4 => omega
 case c5 => exact (below_alloc (Below.refl w.heap.size w) _).size
 intro v1 w1 hown hg _
 go_wp2
 refine bodyPost_ret (by simp [results, Tryz.results189, go_sem]) rfl ⟨v1, rfl, Kd.R_of_own (enc := Value.int .u32) (by simpa [encs] using hown) (fun _ _ => trivial), (below_alloc (Below.refl w.heap.size w) _).grown hg (below_alloc (Below.refl w.heap.size w) _).size (fun k hk => by simp [Value.ownBlock] at hk; omega)⟩
theorem clone4_calls (A : Option Addr) (c : Nat) (l : List Int) (w : World) (hr : Kd.C (Kd.int .u32) w A l.length l) (hl : l.length ≤ 4000000) : Calls Tryz.prog 189 #[.slice A l.length c] w fun e w' => ∃ v, e = .returned v ∧ Kd.R (Kd.int .u32) 145 w' w.heap.size (fun _ => True) v l ∧ Below w.heap.size w w' := by
 cases A with
 | some ad => exact clone4_some ad c l w hr hl
 | none =>
  have h0 : l = [] := by
   cases l with
   | nil => rfl
   | cons x xs =>
    obtain ⟨ad, h, _⟩ := hr.2.2 (by simp)
    cases h
  subst h0
  refine (clone4_none c w).mono ?_
  rintro e w' ⟨rfl, hb⟩
  exact ⟨_, rfl, Kd.R_nil _ _ _ _ _, hb⟩
end Go.Proofs.YtbkknoipgmlcmaaGreatDoor.P

namespace Go.Proofs.YtbkknoipgmlcmaaGreatDoor.P
theorem moved {x y u v : List Int} {m : Nat} {e f : Int} (hx : dCan x) (hy : dCan y) (hyl : y.length = m + 2) (hef : e * f = 4294967296) (he1 : 1 ≤ e) (hf2 : 2 ≤ f)
 (h1 : 2147483648 ≤ y.getD (m + 1) 0 * e) (h2 : y.getD (m + 1) 0 * e < 4294967296) (hu : dOk u) (hul : u.length = x.length + 1) (huv : dv u = dv x * e) (hv : dCan v) (hvv : dv v = dv y * e)
 (hxy : y.length ≤ x.length) :
 v.length = m + 2 ∧ 2147483648 ≤ v.getD (m + 1) 0 ∧ dv (u.drop (x.length - (m + 1))) < dv v ∧ x.length - (m + 1) + (m + 2) ≤ u.length := by
 have hy1 := dv_cut y (m + 1) (by omega)
 rw [drop_one (by omega), List.drop_of_length_le (by omega)] at hy1
 simp only [dv, Int.mul_zero, Int.add_zero] at hy1
 have hyb := dv_bound (y.take (m + 1)) (dOk_take hy.1 _)
 rw [List.length_take, Nat.min_eq_left (by omega)] at hyb
 have hp := pB_pos (m + 1)
 have hyt := (dCan_top hy (n := m + 1) (by omega)).2
 generalize y.getD (m + 1) 0 = t at *
 have htf : t + 1 ≤ f := by
  rcases Int.lt_or_le t f with h | h
  ·omega
  ·have := Int.mul_le_mul_of_nonneg_left h (show 0 ≤ e by omega)
   have e1 : e * t = t * e := Int.mul_comm _ _
   omega
 have hte := Int.mul_le_mul_of_nonneg_left htf (show 0 ≤ e by omega)
 have e2 : e * (t + 1) = t * e + e := by grind
 have a1 : pB (m + 1) * (t * e) ≤ dv v := by
  have := Int.mul_nonneg hyb.1 (show 0 ≤ e by omega)
  have e3 : dv y * e = dv (y.take (m + 1)) * e + pB (m + 1) * (t * e) := by rw [hy1]; grind
  omega
 have a2 : dv v < pB (m + 2) := by
  have h3 : dv y + 1 ≤ pB (m + 1) * (t + 1) := by
   have : pB (m + 1) * (t + 1) = pB (m + 1) * t + pB (m + 1) := by grind
   omega
  have h4 := Int.mul_le_mul_of_nonneg_right h3 (show 0 ≤ e by omega)
  have h5 : (dv y + 1) * e = dv y * e + e := by grind
  have h6 : pB (m + 1) * (t + 1) * e = pB (m + 1) * (t * e + e) := by grind
  have h7 := Int.mul_le_mul_of_nonneg_left (show t * e + e ≤ 4294967296 by omega) (Int.le_of_lt hp)
  have h8 : pB (m + 2) = pB (m + 1) * 4294967296 := by show 4294967296 * pB (m + 1) = _; rw [Int.mul_comm]
  omega
 have a3 : pB (m + 1) * 2147483648 ≤ pB (m + 1) * (t * e) := Int.mul_le_mul_of_nonneg_left h1 (Int.le_of_lt hp)
 have hvl : v.length = m + 2 := dCan_len hv (n := m + 1) (by omega) a2
 refine ⟨hvl, ?_, ?_, by omega⟩
 ·have b1 := dv_cut v (m + 1) (by omega)
  rw [drop_one (by omega), List.drop_of_length_le (by omega)] at b1
  simp only [dv, Int.mul_zero, Int.add_zero] at b1
  have b2 := dv_bound (v.take (m + 1)) (dOk_take hv.1 _)
  rw [List.length_take, Nat.min_eq_left (by omega)] at b2
  rcases Int.lt_or_le (v.getD (m + 1) 0) 2147483648 with h | h
  ·have b3 := Int.mul_le_mul_of_nonneg_left (show v.getD (m + 1) 0 + 1 ≤ 2147483648 by omega) (Int.le_of_lt hp)
   have b4 : pB (m + 1) * (v.getD (m + 1) 0 + 1) = pB (m + 1) * v.getD (m + 1) 0 + pB (m + 1) := by grind
   omega
  ·exact h
 ·have c1 := dv_cut u (x.length - (m + 1)) (by omega)
  have c2 := (dv_bound (u.take (x.length - (m + 1))) (dOk_take hu _)).1
  have c3 := (dv_bound x hx.1).2
  have c4 : pB x.length = pB (x.length - (m + 1)) * pB (m + 1) := by rw [← pB_add]; congr 1; omega
  have hq := pB_pos (x.length - (m + 1))
  generalize pB (x.length - (m + 1)) = q at *
  rcases Int.lt_or_le (dv (u.drop (x.length - (m + 1)))) (dv v) with h | h
  ·exact h
  ·have d1 := Int.mul_le_mul_of_nonneg_left h (Int.le_of_lt hq)
   have d2 := Int.mul_le_mul_of_nonneg_left a1 (Int.le_of_lt hq)
   have d3 := Int.mul_lt_mul_of_pos_right c3 (show 0 < e by omega)
   rw [c4] at d3
   have d4 := Int.mul_le_mul_of_nonneg_left (show 1 * e ≤ t * e from Int.mul_le_mul_of_nonneg_right hyt (by omega)) (show 0 ≤ q * pB (m + 1) from Int.mul_nonneg (Int.le_of_lt hq) (Int.le_of_lt hp))
   have d5 : q * (pB (m + 1) * (t * e)) = q * pB (m + 1) * (t * e) := by grind
   have d6 : q * pB (m + 1) * (1 * e) = q * pB (m + 1) * e := by grind
   omega
theorem moved_back {X Y E L e k : Int} (he1 : 1 ≤ e) (hL : L = X * e - k * (Y * e)) (h0 : 0 ≤ L) (h1 : L < Y * e) : L / e = X % Y := by
 have h2 : L = (X - k * Y) * e := by rw [hL]; grind
 have h3 : L / e = X - k * Y := by rw [h2, Int.mul_ediv_cancel _ (by omega)]
 have h4 : 0 ≤ X - k * Y := by rw [← h3]; exact Int.ediv_nonneg h0 (by omega)
 have h5 : X - k * Y < Y := by rw [← h3]; exact Int.ediv_lt_of_lt_mul (by omega) h1
 have h6 : X = (X - k * Y) + Y * k := by grind
 rw [h3]
 conv => rhs; rw [h6]
 rw [Int.add_mul_emod_self_left, Int.emod_eq_of_lt h4 h5]
end Go.Proofs.YtbkknoipgmlcmaaGreatDoor.P

namespace Go.Proofs.YtbkknoipgmlcmaaGreatDoor.P
open Go.RowKit Go.Proofs.YtbkknoipgmlcmaaGreatDoorW.PrintWords Go.Proofs.YtbkknoipgmlcmaaGreatDoorW.PrintLast Go.Proofs.YtbkknoipgmlcmaaGreatDoorW.PrintMore
open Go.Proofs.FX
attribute [local go_sem] cell_twice le_add_cast
def DivPost (w : World) (x y : List Int) (e : Ending) (w' : World) : Prop :=
 ∃ (v1 : Value) (A : Option Addr) (c : Nat) (r : List Int), e = .returned (.tuple #[v1, .slice A r.length c]) ∧ Kd.C (Kd.int .u32) w' A r.length r ∧ r.length ≤ c ∧ dCan r ∧ dv r = dv x % dv y ∧ Below w.heap.size w w'
theorem dCan_pos {y : List Int} (h : dCan y) (h0 : y ≠ []) : 0 < dv y := by
 have hl : 0 < y.length := List.length_pos_iff.2 h0
 have := (dCan_top h (n := y.length - 1) (by omega)).1
 have := pB_pos (y.length - 1)
 omega
theorem div_less (A B : Option Addr) (c d : Nat) (x y : List Int) (w : World) (hx : dCan x) (hy : dCan y) (bx : x.length ≤ 1000) (by_ : y.length ≤ 1000) (hA : Kd.C (Kd.int .u32) w A x.length x) (hc : x.length ≤ c) (hB : Kd.C (Kd.int .u32) w B y.length y) (hd : y.length ≤ d) (hlt : dv x < dv y) :
 Calls Tryz.prog 235 #[.slice A x.length c, .slice B y.length d] w (DivPost w x y) := by
 obtain ⟨r, hr, hi⟩ := compare_ev hx hy (by omega) (by omega)
 obtain ⟨k, hk⟩ := hr.rounds
 have k0 : decide (r < 0) = true := dT (hi.2 hlt)
 have HC := aS (nat_compare.calls k A c x B d y r w hA hc hB hd hk)
 have HA := aS hA
 have HL : Aside0 (dCan x ∧ dv x = dv x % dv y ∧ x.length ≤ 4000000) := ⟨hx, (Int.emod_eq_of_lt (dv_bound x hx.1).1 hlt).symm, by omega⟩
 clear hA hB hc hd hlt hi hr hk
 go_enter Tryz.func235, Tryz.ntmps235
 go_wp2_with fail
 (with_reducible refine HC.out.mono ?_)
 rintro e w1 ⟨rfl, ⟨nd, rfl⟩⟩
 go_wp2_with fail
 (with_reducible refine (clone4_calls A c x _ (Kd.C_drewN HA.out _) HL.out.2.2).mono ?_)
 rintro e w2 ⟨v, rfl, hR, hb⟩
 have HR := aS hR
 have HB := aS (bs_ (pw_below_drewN (Below.refl w.heap.size w) nd) hb)
 clear hR hb
 obtain ⟨A2, c2, rfl⟩ := Kd.R_slice HR.out
 go_wp2
 exact bodyPost_ret (v := .tuple #[.slice none 0 0, .slice A2 x.length c2]) (by simp [results, Tryz.results235, go_sem]) rfl ⟨_, A2, c2, x, rfl, (Kd.R_reads' HR.out).2.2, (Kd.R_reads' HR.out).2.1, HL.out.1, HL.out.2.1, HB.out⟩
theorem div_one (A : Option Addr) (b : Addr) (c d : Nat) (x : List Int) (y : Int) (w : World) (hx : dCan x) (hy : dCan [y]) (bx : x.length ≤ 1000) (hA : Kd.C (Kd.int .u32) w A x.length x) (hc : x.length ≤ c) (hB : Kd.C (Kd.int .u32) w (some b) 1 [y]) (hd : 1 ≤ d) (hle : dv [y] ≤ dv x) :
 Calls Tryz.prog 235 #[.slice A x.length c, .slice (some b) 1 d] w (DivPost w x [y]) := by
 obtain ⟨r, hr, hi⟩ := compare_ev hx hy (by omega) (show 1 ≤ 1000000 by decide)
 obtain ⟨k, hk⟩ := hr.rounds
 have k0 : decide (r < 0) = false := dF (by omega)
 have HC : Aside0 (Calls Tryz.prog 245 #[.slice A x.length c, .slice (some b) 1 d] w fun e w' => e = .returned (.int .i64 r) ∧ Drawn0 w w') := ⟨nat_compare.calls k A c x (some b) d [y] r w hA hc hB hd hk⟩
 have hy1 : 1 ≤ y ∧ y < 4294967296 := ⟨by have := (dCan_top hy (n := 0) rfl).2; exact this, (dOk_cons.1 hy.1).1.2⟩
 have hyv : dv [y] = y := by simp [dv]
 obtain ⟨q, hq, hqc⟩ := short_ev hx.1 hy1 (by omega) x.length (List.replicate x.length 0) 0 (Nat.le_refl _) (List.length_replicate ..) (fun d hd => by rw [List.eq_of_mem_replicate hd]; decide) (by rw [List.drop_of_length_le (Nat.le_refl _)]; simp [dv])
 have hq2 : Ev (fun k => nat_short.f k x y) (q, dv x % y) := by
  refine Ev.congr (fun k => ?_) hq
  unfold nat_short.f
  have c1 : (0 : Int) ≤ ((x.length : Nat) : Int) := by omega
  have c2 : x.length ≤ 70368744177664 := by omega
  rw [if_pos c1, Int.toNat_natCast, if_pos c2, d64 (by omega) (by omega)]
 obtain ⟨k2, hk2⟩ := hq2.rounds
 have HS := aS (fun W hb => nat_short.calls k2 A c x y q (dv x % y) W (Kd.C_below hA hb) hc hk2)
 have hm0 := Int.emod_nonneg (dv x) (show y ≠ 0 by omega)
 have hm1 := Int.emod_lt_of_pos (dv x) (show 0 < y by omega)
 have hrok : dOk [dv x % y] := dOk_cons.2 ⟨⟨hm0, by omega⟩, fun d hd => by cases hd⟩
 obtain ⟨s, hs, hsc, hsv, hsl⟩ := trim_ev 1 [dv x % y] rfl hrok (by decide)
 obtain ⟨k3, hk3⟩ := hs.rounds
 obtain ⟨ad, he, hb⟩ := (Kd.reads_of_C (enc := Value.int .u32) (d := (0 : Int)) (h1 := fun _ => rfl) hB).2.2 (by decide)
 injection he with he
 subst he
 obtain ⟨bb, bo, bl⟩ := b
 have hy0 : w.cell? ⟨bb, bo, bl⟩ = some (.int .u32 y) := hb 0 (by decide)
 have HL : Aside0 (dCan s ∧ dv s = dv x % dv [y]) := ⟨hsc, by rw [hsv, hyv]; simp [dv]⟩
 have HK3 := aS hk3
 generalize dv x % y = m at *
 clear hA hB hc hd hle hi hr hk hb hq hq2 hk2 hm0 hm1 hrok hs hsc hsv hsl hk3 hy1 hyv hqc
 go_enter Tryz.func235, Tryz.ntmps235
 go_wp2_with fail
 (with_reducible refine HC.out.mono ?_)
 rintro e w1 ⟨rfl, ⟨nd, rfl⟩⟩
 go_wp2_with fail
 (with_reducible refine (HS.out _ (pw_below_drewN (Below.refl w.heap.size w) nd)).mono ?_)
 rintro e w2 ⟨v, rfl, hV, hb⟩
 have HB := aS (bs_ (pw_below_drewN (Below.refl w.heap.size w) nd) hb)
 clear hb hV
 go_wp2_with fail
 have hR : Kd.R (Kd.int .u32) 145 (w2.alloc (.cells #[.int .u32 m] 145)) w2.heap.size (fun _ => True) (.slice (some ⟨w2.heap.size, 0, none⟩) 1 1) [m] := by
  have hown := World.ownsRow_lit (base := w2.heap.size) (e := 145) (size := 1) w2 #[.int .u32 m] 1 (Nat.le_refl _) (by decide) (by rfl)
  exact Kd.R_of_own (enc := Value.int .u32) (h1 := fun _ => rfl) (by simpa [encs] using hown) (fun _ _ => trivial)
 have HT : Aside0 (Calls Tryz.prog 220 #[.slice (some ⟨w2.heap.size, 0, none⟩) 1 1] (w2.alloc (.cells #[.int .u32 m] 145)) fun e w' => ∃ v0_ : Value, e = .returned (v0_) ∧ Kd.V (Kd.int .u32) 145 w' (w2.alloc (.cells #[.int .u32 m] 145)).heap.size (fun k_ => (True ∨ (w2.alloc (.cells #[.int .u32 m] 145)).heap.size ≤ k_)) v0_ s ∧ Below (w2.alloc (.cells #[.int .u32 m] 145)).heap.size (w2.alloc (.cells #[.int .u32 m] 145)) w') :=
  ⟨nat_trim.calls k3 (fun _ => True) (some ⟨w2.heap.size, 0, none⟩) 1 [m] s (w2.alloc (.cells #[.int .u32 m] 145)) (Kd.R_V hR) HK3.out⟩
 have HB2 := aS (below_alloc HB.out (.cells #[.int .u32 m] 145))
 clear hR
 generalize w2.alloc (.cells #[.int .u32 m] 145) = w3 at HT HB2 ⊢
 (with_reducible refine HT.out.mono ?_)
 rintro e w4 ⟨u, rfl, hV, hb⟩
 have HV := aS hV
 replace HB := aS (bs_ HB2.out hb)
 clear hV hb
 obtain ⟨A2, c2, rfl⟩ := Kd.V_slice HV.out
 go_wp2
 exact bodyPost_ret (v := .tuple #[v, .slice A2 s.length c2]) (by simp [results, Tryz.results235, go_sem]) rfl ⟨_, A2, c2, s, rfl, (Kd.V_reads' HV.out).2.2, (Kd.V_reads' HV.out).2.1, HL.out.1, HL.out.2, HB.out⟩
end Go.Proofs.YtbkknoipgmlcmaaGreatDoor.P

namespace Go.Proofs.YtbkknoipgmlcmaaGreatDoor.P
theorem guess_at {v u : List Int} {n : Nat} (hv : dOk v) (hu : dOk u) (hvl : v.length = n + 2) (hul : u.length = n + 3) (hv1 : 2147483648 ≤ v.getD (n + 1) 0) (hlt : dv u < 4294967296 * dv v) :
 (let two := u.getD (n + 2) 0 * 4294967296 + u.getD (n + 1) 0
  let v1 := v.getD (n + 1) 0
  0 ≤ guessL v1 (v.getD n 0) (u.getD n 0) 3 (two / v1) (two % v1) ∧ guessL v1 (v.getD n 0) (u.getD n 0) 3 (two / v1) (two % v1) < 4294967296 ∧ two / v1 ≤ 4294967297 ∧ 0 ≤ two ∧ two < 18446744073709551616) := by
 have b1 := dv_bound (v.take n) (dOk_take hv n)
 have b2 := dv_bound (u.take n) (dOk_take hu n)
 rw [List.length_take, Nat.min_eq_left (by omega)] at b1 b2
 have g1 := getD_digit hv (n + 1)
 have g2 := getD_digit hv n
 have g3 := getD_digit hu n
 have g4 := getD_digit hu (n + 1)
 have g5 := getD_digit hu (n + 2)
 have hV : dv v = (v.getD (n + 1) 0 * 4294967296 + v.getD n 0) * pB n + dv (v.take n) := by rw [dv_top2 hvl]; grind
 have hW : dv u = ((u.getD (n + 2) 0 * 4294967296 + u.getD (n + 1) 0) * 4294967296 + u.getD n 0) * pB n + dv (u.take n) := by rw [dv_top3 hul]; grind
 have hp := pB_pos n
 have hVp : 0 < dv v := by
  have := Int.mul_le_mul_of_nonneg_right (show (1 : Int) ≤ v.getD (n + 1) 0 * 4294967296 + v.getD n 0 by omega) (Int.le_of_lt hp)
  omega
 have h0W := (dv_bound u hu).1
 have hdv := (dv_bound v hv).1
 have htop : u.getD (n + 2) 0 ≤ v.getD (n + 1) 0 := by
  rcases Int.lt_or_le (v.getD (n + 1) 0) (u.getD (n + 2) 0) with h | h
  ·have h2 : (v.getD (n + 1) 0 * 4294967296 + v.getD n 0 + 1) * 4294967296 * pB n ≤ ((u.getD (n + 2) 0 * 4294967296 + u.getD (n + 1) 0) * 4294967296 + u.getD n 0) * pB n := Int.mul_le_mul_of_nonneg_right (by omega) (Int.le_of_lt hp)
   have h3 : (v.getD (n + 1) 0 * 4294967296 + v.getD n 0 + 1) * 4294967296 * pB n = 4294967296 * ((v.getD (n + 1) 0 * 4294967296 + v.getD n 0) * pB n) + 4294967296 * pB n := by grind
   omega
  ·exact h
 have t1 : 0 ≤ u.getD (n + 2) 0 * 4294967296 + u.getD (n + 1) 0 := by omega
 have t2 : u.getD (n + 2) 0 * 4294967296 + u.getD (n + 1) 0 < v.getD (n + 1) 0 * 4294967296 + 4294967296 := by omega
 have t3 : u.getD (n + 2) 0 * 4294967296 + u.getD (n + 1) 0 < 18446744073709551616 := by omega
 dsimp only
 generalize u.getD (n + 2) 0 * 4294967296 + u.getD (n + 1) 0 = two at *
 generalize v.getD (n + 1) 0 = v1 at *
 have e1 := Int.mul_ediv_add_emod two v1
 have e2 := Int.emod_nonneg two (show v1 ≠ 0 by omega)
 have e3 := Int.emod_lt_of_pos two (show 0 < v1 by omega)
 have e4 : two / v1 ≤ 4294967297 := by
  have : two / v1 < 4294967298 := Int.ediv_lt_of_lt_mul (by omega) (by omega)
  omega
 have e5 : 0 ≤ two / v1 := Int.ediv_nonneg (by omega) (by omega)
 have e6 : (two / v1 + 1) * v1 = v1 * (two / v1) + v1 := by grind
 have key := guessL_spec hp (by omega) g2 b1 b2 g3 hV hW hVp hlt h0W 3 (two / v1) (two % v1) (by rw [Int.mul_comm]; exact e1) e5 e4 e2 (by omega) (by omega) (guess_up hp (by omega) g2.1 b1.1 g3.2 b2.2 hV hW (by omega) e5)
 exact ⟨key.1, key.2.1, e4, t1, t3⟩
theorem win_at {v u : List Int} {n j : Nat} (hv : dOk v) (hvl : v.length = n + 2) (hv1 : 2147483648 ≤ v.getD (n + 1) 0) (hu : dOk u) (hl : j + 1 + (n + 2) ≤ u.length) (hlt : dv (u.drop (j + 1)) < dv v) :
 ((u.drop j).take (n + 3)).length = n + 3 ∧ dOk ((u.drop j).take (n + 3)) ∧ dv ((u.drop j).take (n + 3)) < 4294967296 * dv v ∧ dv ((putL u j (n + 3) (stepL v ((u.drop j).take (n + 3))).1).drop j) < dv v := by
 have hwl : ((u.drop j).take (n + 3)).length = n + 3 := by rw [List.length_take, List.length_drop]; omega
 have hwok : dOk ((u.drop j).take (n + 3)) := dOk_take (dOk_drop hu j) _
 have hVb := (dv_bound v hv).2
 rw [hvl] at hVb
 have hab : dv (u.drop (j + (n + 3))) = 0 := by
  have h1 := dv_cut (u.drop (j + 1)) (n + 2) (by rw [List.length_drop]; omega)
  rw [List.drop_drop, show j + 1 + (n + 2) = j + (n + 3) by omega] at h1
  have h2 := dv_bound ((u.drop (j + 1)).take (n + 2)) (dOk_take (dOk_drop hu _) _)
  have h3 := dv_bound (u.drop (j + (n + 3))) (dOk_drop hu _)
  rcases Int.lt_or_le (dv (u.drop (j + (n + 3)))) 1 with h | h
  ·omega
  ·have := Int.mul_le_mul_of_nonneg_left h (Int.le_of_lt (pB_pos (n + 2)))
   omega
 have hwin : dv (u.drop j) = dv ((u.drop j).take (n + 3)) := by
  have h1 := dv_cut (u.drop j) (n + 3) (by rw [List.length_drop]; omega)
  rw [List.drop_drop, hab, Int.mul_zero] at h1
  omega
 have hW : dv ((u.drop j).take (n + 3)) < 4294967296 * dv v := by
  rw [← hwin, drop_one (by omega)]
  have := getD_digit hu j
  simp only [dv]
  omega
 obtain ⟨k, hk, h0, hV, _⟩ := stepL_spec hv hwok hvl hwl hv1 hW
 have hsl := stepL_len v ((u.drop j).take (n + 3))
 have hso := stepL_ok v ((u.drop j).take (n + 3))
 rw [hwl] at hsl
 generalize (stepL v ((u.drop j).take (n + 3))).1 = w at *
 have hdr : dv ((putL u j (n + 3) w).drop j) = dv w := by
  rw [putL_drop (by omega), dv_append, hab, Int.mul_zero, Int.add_zero]
 exact ⟨hwl, hwok, hW, by rw [hdr]; exact hV⟩
theorem step_at {v w : List Int} {n : Nat} {a2 a1 a0 v1 v0 two q : Int} (hvl : v.length = n + 2) (h2 : w.getD (n + 2) 0 = a2) (h1 : w.getD (n + 1) 0 = a1) (h0 : w.getD n 0 = a0) (g1 : v.getD (n + 1) 0 = v1) (g0 : v.getD n 0 = v0)
 (ht : a2 * 4294967296 + a1 = two) (hq : guessL v1 v0 a0 3 (two / v1) (two % v1) = q) :
 stepL v w = if (tkL q w v 0 0).2.2 = 0 then ((tkL q w v 0 0).1, q) else ((gvL (tkL q w v 0 0).1 v 0).1, q - 1) := by
 unfold stepL
 rw [hvl]
 simp only [show n + 2 - 1 = n + 1 from rfl, show n + 2 - 2 = n from rfl, h2, h1, h0, g1, g0, ht, hq]
end Go.Proofs.YtbkknoipgmlcmaaGreatDoor.P

