import Derived.Test.YtbkknoipgmlcmaaGreatDoorQCM14
set_option linter.unusedVariables false
set_option linter.unusedSimpArgs false
set_option maxHeartbeats 8000000
set_option maxRecDepth 100000
namespace Go.Proofs.YtbkknoipgmlcmaaGreatDoor.P
open Go.RowKit Go.Proofs.YtbkknoipgmlcmaaGreatDoorW.PrintWords Go.Proofs.YtbkknoipgmlcmaaGreatDoorW.PrintLast Go.Proofs.YtbkknoipgmlcmaaGreatDoorW.PrintMore
open Go.Proofs.FX
attribute [local go_sem] cell_twice le_add_cast
attribute [local go_sem] max2_int min2_int max_two min_two max_three min_three max_four min_four
def nat_trim.l0 : Nat → List Int → Option (List Int)
 | 0, _ => none
 | k + 1, x0 => if (x0.length : Int) > 0 then (if 0 ≤ (wrap64 ((x0.length : Int) - 1)) then (if (wrap64 ((x0.length : Int) - 1)) < (x0.length : Int) then (if (rd x0 (wrap64 ((x0.length : Int) - 1))) = 0 then (if (wrap64 ((x0.length : Int) - 1)) ≤ (x0.length : Int) then (nat_trim.l0 k (x0.take ((wrap64 ((x0.length : Int) - 1)) : Int).toNat)) else (none)) else (some x0)) else (none)) else (none)) else (some x0)
def nat_trim.f (k : Nat) (l0 : List Int) : Option (List Int) := nat_trim.l0 k l0
theorem nat_trim.calls (k : Nat) (P0_ : Nat → Prop) (A0 : Option Addr) (c0 : Nat) (l0 : List Int) (r : List Int) (w : World) (hs0 : Kd.V (Kd.int .u32) 145 w w.heap.size (fun k_ => P0_ k_) (.slice A0 l0.length c0) l0) (h : nat_trim.f k l0 = some r) :
 Calls Tryz.prog 220 #[.slice A0 l0.length c0] w fun e w' => ∃ v0_ : Value, e = .returned (v0_) ∧ Kd.V (Kd.int .u32) 145 w' w.heap.size (fun k_ => (P0_ k_ ∨ w.heap.size ≤ k_)) v0_ r ∧ Below w.heap.size w w' := by
 have HO0 := aS (show Kd.V (Kd.int .u32) 145 w w.heap.size (fun k_ => (P0_ k_ ∨ w.heap.size ≤ k_)) (.slice A0 l0.length c0) l0 from Kd.V_mono hs0 (fun k_ hk => .inl hk))
 have HB := aS (Below.refl w.heap.size w)
 have H := h
 unfold nat_trim.f at H
 clear h
 have H' := aS H
 clear H
 go_enter Tryz.func220, Tryz.ntmps220
 go_wp2
 go_loopg [0] k (fun kq v0 w' => ∃ (x0_1 : List Int), Aside0 (nat_trim.l0 kq x0_1 = some r) ∧ Aside0 (kq ≤ k) ∧ Aside0 (Kd.V (Kd.int .u32) 145 w' w.heap.size (fun k_ => (P0_ k_ ∨ w.heap.size ≤ k_)) v0 x0_1) ∧ Aside0 (Below w.heap.size w w'))
 case atStart => exact ⟨(l0), H', ⟨Nat.le_refl _⟩, ⟨by exact vA HO0.out⟩, ⟨bl HB⟩⟩
 case round =>
  clear H'
  obtain ⟨x0_1, HA, HK1, HO_0, HB⟩ := hrel
  cases gk with
  | zero => exact absurd HA.out (by simp [nat_trim.l0])
  | succ k1 =>
   have H := HA.out
   clear HA
   simp only [nat_trim.l0] at H
   by_cases c2 : (x0_1.length : Int) > 0; rotate_left
   ·rw [if_neg c2] at H
    have c2b0 := dF c2
    have c2b1 : decide (0 < x0_1.length) = false := dF (by omega)
    clear c2
    obtain rfl := sI H
    obtain ⟨Ao12, co12, eo12⟩ := Kd.V_slice HO_0.out
    subst eo12
    go_wp2
    go_ret
    exact ⟨_, re, by exact vA HO_0.out, bl HB⟩
   rw [if_pos c2] at H
   have c2b0 := dT c2
   have c2b1 : decide (0 < x0_1.length) = true := dT (by omega)
   clear c2
   obtain ⟨ji3, hji3⟩ : ∃ j_ : Int, (wrap64 ((x0_1.length : Int) - 1)) = j_ := ⟨_, rfl⟩
   simp only [hji3] at H
   have hji3w : (IntKind.i64.wrap ((x0_1.length : Int) - 1)) = ji3 := (i64_w _).trans hji3
   by_cases c4 : 0 ≤ (ji3); rotate_left
   ·rw [if_neg c4] at H
    cases H
   rw [if_pos c4] at H
   have c4b0 := dT c4
   clear c4
   by_cases c5 : (ji3) < (x0_1.length : Int); rotate_left
   ·rw [if_neg c5] at H
    cases H
   rw [if_pos c5] at H
   have c5b0 := dT c5
   clear c5
   by_cases c6 : (rd x0_1 (ji3)) = 0; rotate_left
   ·rw [if_neg c6] at H
    have c6b0 := bF c6
    have c6b1 := nT c6
    obtain rfl := sI H
    obtain ⟨Ao11, co11, eo11⟩ := Kd.V_slice HO_0.out
    subst eo11
    have p183 : 0 ≤ ((ji3) : Int) := oa
    have q183 : (ji3) < (x0_1.length : Int) := oa
    obtain ⟨ad183, e183, hx183_0⟩ := Kd.at_int (Kd.V_reads' HO_0.out).2.2 (ji3) p183 q183
    cases e183
    replace p183 := eq_true p183
    replace q183 := eq_true q183
    go_wp2
    go_ret
    exact ⟨_, by first | rfl | (simp [errW_none, errW_some] <;> rfl) | (simp only [← hji3]; first | rfl | (simp [errW_none, errW_some] <;> rfl)) | (simp [*, errW_none, errW_some] <;> rfl), by exact vA HO_0.out, bl HB⟩
   rw [if_pos c6] at H
   have c6b0 := bT c6
   have c6b1 := nF c6
   clear c6
   have c7b0 := eq_true (oa : 0 ≤ (ji3))
   by_cases c8 : (ji3) ≤ (x0_1.length : Int); rotate_left
   ·rw [if_neg c8] at H
    cases H
   rw [if_pos c8] at H
   have c8b0 := eq_true c8
   have c8b1 := dT c8
   clear c8
   obtain ⟨y184, hy184⟩ : ∃ y_ : List Int, y_ = (x0_1.take ((ji3) : Int).toNat) := ⟨_, rfl⟩
   first | replace H := bsB H hy184 | rw [← hy184] at H
   have Ny184 := aS hy184
   clear hy184
   have H' := aS H
   clear H
   obtain ⟨Ao9, co9, eo9⟩ := Kd.V_slice HO_0.out
   subst eo9
   have p183 : 0 ≤ ((ji3) : Int) := oa
   have q183 : (ji3) < (x0_1.length : Int) := oa
   obtain ⟨ad183, e183, hx183_0⟩ := Kd.at_int (Kd.V_reads' HO_0.out).2.2 (ji3) p183 q183
   cases e183
   replace p183 := eq_true p183
   replace q183 := eq_true q183
   have q10 : ((ji3) : Int) ≤ ((x0_1.length : Int) : Int) := oa
   obtain ⟨i010, hi010, _, hsz10, _⟩ := info_parts info145
   have hroom10 : x0_1.length ≤ co9 := (Kd.V_reads' HO_0.out).2.1
   have hC10 : Kd.F (Kd.int .u32) _ _ (some ad183) x0_1.length x0_1 := (Kd.V_at (base := w.heap.size) HO_0.out).2.2
   have hcut10 := cut_to (P := Tryz.prog) 59 145 .i64 Tryz.underlying59 hi010 (some ad183) x0_1.length co9 (ji3) (oa) q10 hroom10
   have hr10 := Kd.F_take (m := ((ji3) : Int).toNat) hC10 (by omega)
   have hy10 : y184.length = ((ji3) : Int).toNat := (by rw [Ny184.out, List.length_take]; omega)
   rw [← Ny184.out] at hr10
   rw [← hy10] at hcut10
   have HO188 := aS (show Kd.V (Kd.int .u32) 145 _ w.heap.size _ (.slice (some ad183) y184.length co9) y184 from Kd.V_mk (by omega) hr10)
   have HC188 := aS (show y184.length ≤ co9 from by omega)
   clear hr10 hC10 hroom10 hi010 hsz10
   have KY10 := aS hy10
   clear hy10
   replace q10 := eq_true q10
   go_wp2
   go_roundg k1
   case measure => have := HK1.out; omega
   case rel => exact ⟨(y184), H', ⟨by have := HK1.out; omega⟩, ⟨by exact vA HO188.out⟩, ⟨bl HB⟩⟩
def nat_short.l0 : Nat → List Int → Int → List Int → Int → Int → Option (List Int × Int)
 | 0, _, _, _, _, _ => none
 | k + 1, x0, x1, x6, x7, x8 => if x8 ≥ 0 then (if 0 ≤ x8 then (if x8 < (x0.length : Int) then (if (IntKind.u64.wrap (x1)) = 0 then (none) else (if x8 < (x6.length : Int) then (nat_short.l0 k x0 x1 (x6.set (x8 : Int).toNat ((IntKind.u64.wrap (Int.tdiv (Go.bits .or .u64 (IntKind.u64.wrap (x7 * 4294967296)) (IntKind.u64.wrap (rd x0 x8))) (IntKind.u64.wrap (x1)))) % 4294967296)) (Int.tmod (Go.bits .or .u64 (IntKind.u64.wrap (x7 * 4294967296)) (IntKind.u64.wrap (rd x0 x8))) (IntKind.u64.wrap (x1))) (wrap64 (x8 - 1))) else (none))) else (none)) else (none)) else ((nat_trim.f k x6).bind fun t194 => (some (t194, (x7) % 4294967296)))
def nat_short.f (k : Nat) (l0 : List Int) (a1 : Int) : Option (List Int × Int) := if 0 ≤ (l0.length : Int) then (if ((l0.length : Int) : Int).toNat ≤ 70368744177664 then (nat_short.l0 k l0 a1 (List.replicate ((l0.length : Int) : Int).toNat 0) 0 (wrap64 ((l0.length : Int) - 1))) else (none)) else (none)
theorem nat_short.calls (k : Nat) (A0 : Option Addr) (c0 : Nat) (l0 : List Int) (a1 : Int) (r1 : List Int) (r2 : Int) (w : World) (hr0 : Kd.C (Kd.int .u32) w A0 l0.length l0) (hc0 : l0.length ≤ c0) (h : nat_short.f k l0 a1 = some (r1, r2)) :
 Calls Tryz.prog 190 #[.slice A0 l0.length c0, .int .u32 a1] w fun e w' => ∃ v0_ : Value, e = .returned (.tuple #[v0_, .int .u32 r2]) ∧ Kd.V (Kd.int .u32) 145 w' w.heap.size (fun k_ => (w.heap.size ≤ k_)) v0_ r1 ∧ Below w.heap.size w w' := by
 have HR0 := aS hr0
 have HC0 := aS hc0
 clear hr0 hc0
 have HB := aS (Below.refl w.heap.size w)
 have H := h
 unfold nat_short.f at H
 clear h
 by_cases c3 : 0 ≤ (l0.length : Int); rotate_left
 ·rw [if_neg c3] at H
  cases H
 rw [if_pos c3] at H
 have c3b0 := eq_true c3
 have c3b1 := dT c3
 clear c3
 by_cases c4 : ((l0.length : Int) : Int).toNat ≤ 70368744177664; rotate_left
 ·rw [if_neg c4] at H
  cases H
 rw [if_pos c4] at H
 have c4b0 := eq_true c4
 have c4b1 := dT c4
 clear c4
 obtain ⟨y189, hy189⟩ : ∃ y_ : List Int, y_ = (List.replicate ((l0.length : Int) : Int).toNat 0) := ⟨_, rfl⟩
 first | replace H := bsB H hy189 | rw [← hy189] at H
 have Ny189 := aS hy189
 clear hy189
 have H' := aS H
 clear H
 go_enter Tryz.func190, Tryz.ntmps190
 go_wp2_with (first | ((with_reducible refine gate_dst (N := 11) rfl ?_); refine Kd.R_make (Kd.int .u32) _ 145 rfl (N := 11) rfl 59 _ _ rfl (l0.length : Int) rfl rfl Tryz.underlying59 (.int .u32 0) 4 info145 rfl (by decide) (by omega) 0 (ok := fun _ => True) (okp := fun _ => True) rfl (fun _ hk => hk) trivial (oa) (Nat.le_trans (Nat.mul_le_mul_right _ (oa : (l0.length : Int).toNat ≤ 70368744177664)) (by omega)) (Below.refl _ _) (Nat.le_refl _) ?_; intro v190 w5 ho6 hb hg_ hnew_; clear hg_ hnew_; (first | rw [← Ny189.out] at ho6 | (simp only [Int.reduceToNat] at ho6; rw [← Ny189.out] at ho6)); have HO191 := aS (Kd.R_lower (Kd.R_newM (M := fun k_ => (w.heap.size ≤ k_)) ho6 (below_size (bl HB)) (fun k_ h_ => h_)) (below_size (bl HB))); replace HB := aS (bs_ (bl HB) hb); clear hb ho6))
 go_loopg [7, 8] k (fun kq v7 v8 w' => ∃ (x6_1 : List Int) (x7_1 : Int) (x8_1 : Int), v7 = .int .u64 x7_1 ∧ v8 = .int .i64 x8_1 ∧ Aside0 (nat_short.l0 kq l0 a1 x6_1 x7_1 x8_1 = some (r1, r2)) ∧ Aside0 (kq ≤ k) ∧ Aside0 (Kd.R (Kd.int .u32) 145 w' w.heap.size (fun k_ => (w.heap.size ≤ k_)) v190 x6_1) ∧ Aside0 (Below w.heap.size w w'))
 case atStart => exact ⟨(y189), (0), (wrap64 ((l0.length : Int) - 1)), rs, rs, H', ⟨Nat.le_refl _⟩, ⟨by exact rA (Kd.R_mono HO191.out (fun _ hk => hk.1))⟩, ⟨bl HB⟩⟩
 case round =>
  clear H'
  (try clear c1); (try clear p2); (try clear c3); (try clear c3b0); (try clear c3b1); (try clear c4); (try clear c4b0); (try clear c4b1); (try clear p6)
  obtain ⟨x6_1, x7_1, x8_1, rfl, rfl, HA, HK1, HO_6, HB⟩ := hrel
  cases gk with
  | zero => exact absurd HA.out (by simp [nat_short.l0])
  | succ k1 =>
   have H := HA.out
   clear HA
   simp only [nat_short.l0] at H
   by_cases c7 : x8_1 ≥ 0; rotate_left
   ·rw [if_neg c7] at H
    have c7b0 := dF c7
    clear c7
    replace H := bS H
    obtain ⟨t194, A150, H⟩ := H
    (try dsimp only at H)
    have A15 := aS A150
    clear A150
    simp only [Option.some.injEq, Prod.mk.injEq] at H
    obtain ⟨rfl, rfl⟩ := H
    obtain ⟨Ao16, co16, eo16⟩ := Kd.R_slice HO_6.out
    subst eo16
    go_wp2_with (first | ((with_reducible refine gate_callee (f := 220) rfl ?_); refine gl 40 Tryz.func220 #[.slice Ao16 x6_1.length co16] ?_; (with_reducible refine (nat_trim.calls k1 (fun k_ => some k_ = (.slice Ao16 x6_1.length co16 : Value).ownBlock) _ _ x6_1 t194 _ ?side1 A15.out).mono ?_); (case side1 => exact Kd.R_V (Kd.R_tight rfl (HO_6.out))); rintro e w17 ⟨v195, rfl, ho0, hb⟩; refine ⟨_, rfl, ?_⟩; have HO196 := aS (Kd.V_lower (Kd.V_mono (ok' := fun k_ => (w.heap.size ≤ k_)) ho0 (fun k_ hk_ => Or.elim hk_ (fun hs_ => ((HO_6.out).1 k_ hs_.symm)) (fun hn_ => (Nat.le_trans (below_size (bl HB)) hn_)))) (below_size (bl HB))); replace HO_6 := aS (Kd.R_below (by exact rA HO_6.out) hb); replace HB := aS (bs_ (bl HB) hb); clear hb ho0))
    go_ret2
    exact ⟨_, re, by exact vA HO196.out, bl HB⟩
   rw [if_pos c7] at H
   have c7b0 := dT c7
   clear c7
   by_cases c8 : 0 ≤ x8_1; rotate_left
   ·rw [if_neg c8] at H
    cases H
   rw [if_pos c8] at H
   have c8b0 := dT c8
   clear c8
   by_cases c9 : x8_1 < (l0.length : Int); rotate_left
   ·rw [if_neg c9] at H
    cases H
   rw [if_pos c9] at H
   have c9b0 := dT c9
   clear c9
   by_cases c10 : (IntKind.u64.wrap (a1)) = 0
   ·rw [if_pos c10] at H
    cases H
   rw [if_neg c10] at H
   have c10b0 := bF c10
   have c10b1 := nT c10
   by_cases c11 : x8_1 < (x6_1.length : Int); rotate_left
   ·rw [if_neg c11] at H
    cases H
   rw [if_pos c11] at H
   have c11b0 := dT c11
   clear c11
   obtain ⟨y193, hy193⟩ : ∃ y_ : List Int, y_ = (x6_1.set (x8_1 : Int).toNat ((IntKind.u64.wrap (Int.tdiv (Go.bits .or .u64 (IntKind.u64.wrap (x7_1 * 4294967296)) (IntKind.u64.wrap (rd l0 x8_1))) (IntKind.u64.wrap (a1)))) % 4294967296)) := ⟨_, rfl⟩
   first | replace H := bsB H hy193 | rw [← hy193] at H
   have Ny193 := aS hy193
   clear hy193
   have H' := aS H
   clear H
   have p192 : 0 ≤ (x8_1 : Int) := oa
   have q192 : x8_1 < (l0.length : Int) := oa
   obtain ⟨ad192, e192, hx192_0⟩ := Kd.at_int HR0.out x8_1 p192 q192
   cases e192
   replace hx192_0 := xb HB hx192_0
   replace p192 := eq_true p192
   replace q192 := eq_true q192
   have p12 : 0 ≤ (x8_1 : Int) := oa
   have q12 : (x8_1 : Int) < ((x6_1.length : Int) : Int) := oa
   obtain ⟨go12, co12, eo12, gb12, gl12, cl12, HG12⟩ := Kd.R_form HO_6.out (by omega)
   (first | cases eo12 | (injection eo12 with ea_ en_ ec_; (first | subst ea_ | (injection ea_ with ea_; subst ea_)); subst ec_; clear en_))
   have GB12 := aS gb12
   have GG12 := aS HG12
   clear gb12 gl12 HG12
   obtain ⟨hx12_0, hf12_0⟩ := Kd.R_celln 0 HO_6.out (x8_1 : Int) p12 q12
   replace p12 := eq_true p12
   replace q12 := eq_true q12
   have HP13 := Kd.R_putg HO_6.out (x8_1 : Int) ((IntKind.u64.wrap (Int.tdiv (Go.bits .or .u64 (IntKind.u64.wrap (x7_1 * 4294967296)) (IntKind.u64.wrap (rd l0 x8_1))) (IntKind.u64.wrap (a1)))) % 4294967296)
   go_wp2_with (first | ((with_reducible refine gate_store (t := 145) (p := 34) rfl ?_); refine store_event (t := 145) (p := 34) (v := ?vo_w14) (w1 := (wr.setCell ⟨go12, (x8_1 : Int).toNat, none⟩ (.int .u32 ((IntKind.u64.wrap (Int.tdiv (Go.bits .or .u64 (IntKind.u64.wrap (x7_1 * 4294967296)) (IntKind.u64.wrap (rd l0 x8_1))) (IntKind.u64.wrap (a1)))) % 4294967296)))) ?hg ?ho ?hn ?hr ?_; (case ho => rfl); (case hg => rfl); (case hn => rfl); (case hr => first | (go_simp; done) | (go_simp; rfl)); intro w14 hw; have hg : wr.grownBy w14 (some go12) := (by rw [hw]; exact HP13.2); have hp_ : Kd.R (Kd.int .u32) 145 w14 w.heap.size (fun k_ => (w.heap.size ≤ k_)) (.slice (some ⟨go12, 0, none⟩) x6_1.length co12) y193 := (by rw [hw, Ny193.out]; exact HP13.1); clear HP13; replace HO_6 := aS (hp_); replace HB := aS ((by rw [hw]; exact below_set (HB.out) GB12.out : Below w.heap.size w w14)); clear hg hw hp_))
   go_roundg k1
   case measure => have := HK1.out; omega
   case rel => exact ⟨(y193), (Int.tmod (Go.bits .or .u64 (IntKind.u64.wrap (x7_1 * 4294967296)) (IntKind.u64.wrap (rd l0 x8_1))) (IntKind.u64.wrap (a1))), (wrap64 (x8_1 - 1)), rs, rs, H', ⟨by have := HK1.out; omega⟩, ⟨by exact rA HO_6.out⟩, ⟨bl HB⟩⟩
def nat_compare.l0 : Nat → List Int → List Int → Int → Option (Int)
 | 0, _, _, _ => none
 | k + 1, x0, x1, x5 => if x5 ≥ 0 then (if 0 ≤ x5 then (if x5 < (x0.length : Int) then (if x5 < (x1.length : Int) then (if (rd x0 x5) = (rd x1 x5) then (nat_compare.l0 k x0 x1 (wrap64 (x5 - 1))) else (if (rd x0 x5) < (rd x1 x5) then (some (-1)) else (some 1))) else (none)) else (none)) else (none)) else (some 0)
def nat_compare.f (k : Nat) (l0 : List Int) (l1 : List Int) : Option (Int) := if (l0.length : Int) < (l1.length : Int) then (some (-1)) else (if (l0.length : Int) > (l1.length : Int) then (some 1) else (nat_compare.l0 k l0 l1 (wrap64 ((l0.length : Int) - 1))))
theorem nat_compare.calls (k : Nat) (A0 : Option Addr) (c0 : Nat) (l0 : List Int) (A1 : Option Addr) (c1 : Nat) (l1 : List Int) (r : Int) (w : World) (hr0 : Kd.C (Kd.int .u32) w A0 l0.length l0) (hc0 : l0.length ≤ c0) (hr1 : Kd.C (Kd.int .u32) w A1 l1.length l1) (hc1 : l1.length ≤ c1) (h : nat_compare.f k l0 l1 = some r) :
 Calls Tryz.prog 245 #[.slice A0 l0.length c0, .slice A1 l1.length c1] w fun e w' => e = .returned (.int .i64 r) ∧ Drawn0 w w' := by
 have HR0 := aS hr0
 have HC0 := aS hc0
 clear hr0 hc0
 have HR1 := aS hr1
 have HC1 := aS hc1
 clear hr1 hc1
 have H := h
 unfold nat_compare.f at H
 clear h
 by_cases c3 : (l0.length : Int) < (l1.length : Int)
 ·rw [if_pos c3] at H
  have c3b0 := dT c3
  have c3b1 : decide (l0.length < l1.length) = true := dT (Int.ofNat_lt.mp c3)
  clear c3
  obtain rfl := sI H
  go_enter Tryz.func245, Tryz.ntmps245
  go_wp2
  repeat (go_quiet (fail); try go_wp2)
  go_ret
  exact ⟨by first | rfl | (simp; done) | (simp [*]; done), by repeat (first | exact Drawn0.refl _ | apply Drawn0.step)⟩
 rw [if_neg c3] at H
 have c3b0 := dF c3
 have c3b1 : decide (l0.length < l1.length) = false := dF (fun h => c3 (Int.ofNat_lt.mpr h))
 clear c3
 by_cases c4 : (l0.length : Int) > (l1.length : Int)
 ·rw [if_pos c4] at H
  have c4b0 := dT c4
  have c4b1 : decide (l1.length < l0.length) = true := dT (Int.ofNat_lt.mp c4)
  clear c4
  obtain rfl := sI H
  go_enter Tryz.func245, Tryz.ntmps245
  go_wp2
  repeat (go_quiet (fail); try go_wp2)
  go_ret
  exact ⟨by first | rfl | (simp; done) | (simp [*]; done), by repeat (first | exact Drawn0.refl _ | apply Drawn0.step)⟩
 rw [if_neg c4] at H
 have c4b0 := dF c4
 have c4b1 : decide (l1.length < l0.length) = false := dF (fun h => c4 (Int.ofNat_lt.mpr h))
 clear c4
 have H' := aS H
 clear H
 go_enter Tryz.func245, Tryz.ntmps245
 go_wp2
 repeat (go_quiet (fail); try go_wp2)
 go_loopg [5] k (fun kq v5 w' => ∃ (x5_1 : Int), v5 = .int .i64 x5_1 ∧ Aside0 (nat_compare.l0 kq l0 l1 x5_1 = some r) ∧ Aside0 (kq ≤ k) ∧ Drawn0 w w')
 case atStart => exact ⟨(wrap64 ((l0.length : Int) - 1)), rs, H', ⟨Nat.le_refl _⟩, by repeat (first | exact Drawn0.refl _ | apply Drawn0.step)⟩
 case round =>
  clear H'
  (try clear c1); (try clear c2); (try clear p2); (try clear c3); (try clear c3b0); (try clear c3b1); (try clear c4); (try clear c4b0); (try clear c4b1)
  obtain ⟨x5_1, rfl, HA, HK1, ⟨m1, rfl⟩⟩ := hrel
  cases gk with
  | zero => exact absurd HA.out (by simp [nat_compare.l0])
  | succ k1 =>
   have H := HA.out
   clear HA
   simp only [nat_compare.l0] at H
   by_cases c5 : x5_1 ≥ 0; rotate_left
   ·rw [if_neg c5] at H
    have c5b0 := dF c5
    clear c5
    obtain rfl := sI H
    go_wp2
    repeat (go_quiet (fail); try go_wp2)
    go_ret
    exact ⟨by first | rfl | (simp; done) | (simp [*]; done), by repeat (first | exact Drawn0.refl _ | apply Drawn0.step)⟩
   rw [if_pos c5] at H
   have c5b0 := dT c5
   clear c5
   by_cases c6 : 0 ≤ x5_1; rotate_left
   ·rw [if_neg c6] at H
    cases H
   rw [if_pos c6] at H
   have c6b0 := dT c6
   clear c6
   by_cases c7 : x5_1 < (l0.length : Int); rotate_left
   ·rw [if_neg c7] at H
    cases H
   rw [if_pos c7] at H
   have c7b0 := dT c7
   clear c7
   by_cases c8 : x5_1 < (l1.length : Int); rotate_left
   ·rw [if_neg c8] at H
    cases H
   rw [if_pos c8] at H
   have c8b0 := dT c8
   clear c8
   by_cases c9 : (rd l0 x5_1) = (rd l1 x5_1)
   ·rw [if_pos c9] at H
    have c9b0 := bT c9
    have c9b1 := nF c9
    clear c9
    have H' := aS H
    clear H
    have p197 : 0 ≤ (x5_1 : Int) := oa
    have q197 : x5_1 < (l0.length : Int) := oa
    obtain ⟨ad197, e197, hx197_0⟩ := Kd.at_int HR0.out x5_1 p197 q197
    cases e197
    replace p197 := eq_true p197
    replace q197 := eq_true q197
    have p198 : 0 ≤ (x5_1 : Int) := oa
    have q198 : x5_1 < (l1.length : Int) := oa
    obtain ⟨ad198, e198, hx198_0⟩ := Kd.at_int HR1.out x5_1 p198 q198
    cases e198
    replace p198 := eq_true p198
    replace q198 := eq_true q198
    go_wp2
    repeat (go_quiet (fail); try go_wp2)
    go_roundg k1
    case measure => have := HK1.out; omega
    case rel => exact ⟨(wrap64 (x5_1 - 1)), rs, H', ⟨by have := HK1.out; omega⟩, by repeat (first | exact Drawn0.refl _ | apply Drawn0.step)⟩
   rw [if_neg c9] at H
   have c9b0 := bF c9
   have c9b1 := nT c9
   by_cases c10 : (rd l0 x5_1) < (rd l1 x5_1); rotate_left
   ·rw [if_neg c10] at H
    have c10b0 := dF c10
    clear c10
    obtain rfl := sI H
    have p197 : 0 ≤ (x5_1 : Int) := oa
    have q197 : x5_1 < (l0.length : Int) := oa
    obtain ⟨ad197, e197, hx197_0⟩ := Kd.at_int HR0.out x5_1 p197 q197
    cases e197
    replace p197 := eq_true p197
    replace q197 := eq_true q197
    have p198 : 0 ≤ (x5_1 : Int) := oa
    have q198 : x5_1 < (l1.length : Int) := oa
    obtain ⟨ad198, e198, hx198_0⟩ := Kd.at_int HR1.out x5_1 p198 q198
    cases e198
    replace p198 := eq_true p198
    replace q198 := eq_true q198
    have p199 : 0 ≤ (x5_1 : Int) := oa
    have q199 : x5_1 < (l0.length : Int) := oa
    obtain ⟨ad199, e199, hx199_0⟩ := Kd.at_int HR0.out x5_1 p199 q199
    obtain rfl : ad197 = ad199 := (by injection e199)
    replace p199 := eq_true p199
    replace q199 := eq_true q199
    have p200 : 0 ≤ (x5_1 : Int) := oa
    have q200 : x5_1 < (l1.length : Int) := oa
    obtain ⟨ad200, e200, hx200_0⟩ := Kd.at_int HR1.out x5_1 p200 q200
    obtain rfl : ad198 = ad200 := (by injection e200)
    replace p200 := eq_true p200
    replace q200 := eq_true q200
    go_wp2
    repeat (go_quiet (fail); try go_wp2)
    go_ret
    exact ⟨by first | rfl | (simp; done) | (simp [*]; done), by repeat (first | exact Drawn0.refl _ | apply Drawn0.step)⟩
   rw [if_pos c10] at H
   have c10b0 := dT c10
   clear c10
   obtain rfl := sI H
   have p197 : 0 ≤ (x5_1 : Int) := oa
   have q197 : x5_1 < (l0.length : Int) := oa
   obtain ⟨ad197, e197, hx197_0⟩ := Kd.at_int HR0.out x5_1 p197 q197
   cases e197
   replace p197 := eq_true p197
   replace q197 := eq_true q197
   have p198 : 0 ≤ (x5_1 : Int) := oa
   have q198 : x5_1 < (l1.length : Int) := oa
   obtain ⟨ad198, e198, hx198_0⟩ := Kd.at_int HR1.out x5_1 p198 q198
   cases e198
   replace p198 := eq_true p198
   replace q198 := eq_true q198
   have p199 : 0 ≤ (x5_1 : Int) := oa
   have q199 : x5_1 < (l0.length : Int) := oa
   obtain ⟨ad199, e199, hx199_0⟩ := Kd.at_int HR0.out x5_1 p199 q199
   obtain rfl : ad197 = ad199 := (by injection e199)
   replace p199 := eq_true p199
   replace q199 := eq_true q199
   have p200 : 0 ≤ (x5_1 : Int) := oa
   have q200 : x5_1 < (l1.length : Int) := oa
   obtain ⟨ad200, e200, hx200_0⟩ := Kd.at_int HR1.out x5_1 p200 q200
   obtain rfl : ad198 = ad200 := (by injection e200)
   replace p200 := eq_true p200
   replace q200 := eq_true q200
   go_wp2
   repeat (go_quiet (fail); try go_wp2)
   go_ret
   exact ⟨by first | rfl | (simp; done) | (simp [*]; done), by repeat (first | exact Drawn0.refl _ | apply Drawn0.step)⟩
def bits_LeadingZeros32.f (a0 : Int) : Option (Int) := (bits_Len32.f a0).bind fun t201 => (some (wrap64 (32 - t201)))
theorem bits_LeadingZeros32.calls (a0 : Int) (r : Int) (w : World) (h : bits_LeadingZeros32.f a0 = some r) :
 Calls Tryz.prog 246 #[.int .u32 a0] w fun e w' => e = .returned (.int .i64 r) ∧ Drawn0 w w' := by
 have H := h
 unfold bits_LeadingZeros32.f at H
 clear h
 replace H := bS H
 obtain ⟨t201, A20, H⟩ := H
 (try dsimp only at H)
 have A2 := aS A20
 clear A20
 obtain rfl := sI H
 go_enter Tryz.func246, Tryz.ntmps246
 go_wp2_with (first | ((with_reducible refine gate_callee (f := 244) rfl ?_); refine gl 4 Tryz.func244 #[.int .u32 a0] ?_; (with_reducible refine (bits_Len32.calls a0 t201 _ A2.out).mono ?_); rintro e w' ⟨rfl, ⟨nd, rfl⟩⟩; refine ⟨_, rfl, ?_⟩))
 go_ret
 exact ⟨by first | rfl | (simp; done) | (simp [*]; done), by repeat (first | exact Drawn0.refl _ | apply Drawn0.step)⟩
def nat_left.l0 : Nat → Int → List Int → List Int → Int → Int → Option (List Int)
 | 0, _, _, _, _, _ => none
 | k + 1, x1, x5, x13, x14, x15 => if x15 < x14 then (if 0 ≤ x15 then (if x15 < (x13.length : Int) then (if 0 ≤ x1 then (if x15 < (x5.length : Int) then (if 0 ≤ (wrap64 (x15 + 1)) then (if (wrap64 (x15 + 1)) < (x5.length : Int) then (nat_left.l0 k x1 ((x5.set (x15 : Int).toNat (Go.bits .or .u32 (rd x5 x15) ((shl .u64 (IntKind.u64.wrap (rd x13 x15)) x1) % 4294967296))).set ((wrap64 (x15 + 1)) : Int).toNat (((shl .u64 (IntKind.u64.wrap (rd x13 x15)) x1) / 4294967296) % 4294967296)) x13 x14 (wrap64 (x15 + 1))) else (none)) else (none)) else (none)) else (none)) else (none)) else (none)) else (some x5)
def nat_left.f (k : Nat) (l0 : List Int) (a1 : Int) : Option (List Int) := if 0 ≤ (wrap64 ((l0.length : Int) + 1)) then (if (wrap64 ((l0.length : Int) + 1) : Int).toNat ≤ 70368744177664 then (nat_left.l0 k a1 (List.replicate (wrap64 ((l0.length : Int) + 1) : Int).toNat 0) l0 (l0.length : Int) 0) else (none)) else (none)
theorem nat_left.calls (k : Nat) (A0 : Option Addr) (c0 : Nat) (l0 : List Int) (a1 : Int) (r : List Int) (w : World) (hr0 : Kd.C (Kd.int .u32) w A0 l0.length l0) (hc0 : l0.length ≤ c0) (h : nat_left.f k l0 a1 = some r) :
 Calls Tryz.prog 247 #[.slice A0 l0.length c0, .int .i64 a1] w fun e w' => ∃ v0_ : Value, e = .returned (v0_) ∧ Kd.R (Kd.int .u32) 145 w' w.heap.size (fun _ => True) v0_ r ∧ Below w.heap.size w w' := by
 have HR0 := aS hr0
 have HC0 := aS hc0
 clear hr0 hc0
 have HB := aS (Below.refl w.heap.size w)
 have H := h
 unfold nat_left.f at H
 clear h
 obtain ⟨ji3, hji3⟩ : ∃ j_ : Int, (wrap64 ((l0.length : Int) + 1)) = j_ := ⟨_, rfl⟩
 simp only [hji3] at H
 have hji3w : (IntKind.i64.wrap ((l0.length : Int) + 1)) = ji3 := (i64_w _).trans hji3
 by_cases c4 : 0 ≤ (ji3); rotate_left
 ·rw [if_neg c4] at H
  cases H
 rw [if_pos c4] at H
 have c4b0 := eq_true c4
 have c4b1 := dT c4
 clear c4
 by_cases c5 : (ji3 : Int).toNat ≤ 70368744177664; rotate_left
 ·rw [if_neg c5] at H
  cases H
 rw [if_pos c5] at H
 have c5b0 := eq_true c5
 have c5b1 := dT c5
 clear c5
 obtain ⟨y202, hy202⟩ : ∃ y_ : List Int, y_ = (List.replicate (ji3 : Int).toNat 0) := ⟨_, rfl⟩
 first | replace H := bsB H hy202 | rw [← hy202] at H
 have Ny202 := aS hy202
 clear hy202
 have H' := aS H
 clear H
 go_enter Tryz.func247, Tryz.ntmps247
 go_wp2_with (first | ((with_reducible refine gate_dst (N := 12) rfl ?_); refine Kd.R_make (Kd.int .u32) _ 145 rfl (N := 12) rfl 59 _ _ rfl ji3 rfl rfl Tryz.underlying59 (.int .u32 0) 4 info145 rfl (by decide) (by omega) 0 (ok := fun _ => True) (okp := fun _ => True) rfl (fun _ hk => hk) trivial (oa) (Nat.le_trans (Nat.mul_le_mul_right _ (oa : ji3.toNat ≤ 70368744177664)) (by omega)) (Below.refl _ _) (Nat.le_refl _) ?_; intro v203 w6 ho7 hb hg_ hnew_; clear hg_ hnew_; (first | rw [← Ny202.out] at ho7 | (simp only [Int.reduceToNat] at ho7; rw [← Ny202.out] at ho7)); have HO204 := aS (Kd.R_lower ho7 (below_size (bl HB))); replace HB := aS (bs_ (bl HB) hb); clear hb ho7))
 go_loopg [15] k (fun kq v15 w' => ∃ (x5_1 : List Int) (x15_1 : Int), v15 = .int .i64 x15_1 ∧ Aside0 (nat_left.l0 kq a1 x5_1 l0 (l0.length : Int) x15_1 = some r) ∧ Aside0 (kq ≤ k) ∧ Aside0 (Kd.R (Kd.int .u32) 145 w' w.heap.size (fun _ => True) v203 x5_1) ∧ Aside0 (Below w.heap.size w w'))
 case atStart => exact ⟨(y202), (0), rs, H', ⟨Nat.le_refl _⟩, ⟨by exact rA HO204.out⟩, ⟨bl HB⟩⟩
 case round =>
  clear H'
  (try clear c2); (try clear p2); (try clear c4); (try clear c4b0); (try clear c4b1); (try clear c5); (try clear c5b0); (try clear c5b1); (try clear p6)
  obtain ⟨x5_1, x15_1, rfl, HA, HK1, HO_5, HB⟩ := hrel
  cases gk with
  | zero => exact absurd HA.out (by simp [nat_left.l0])
  | succ k1 =>
   have H := HA.out
   clear HA
   simp only [nat_left.l0] at H
   by_cases c8 : x15_1 < (l0.length : Int); rotate_left
   ·rw [if_neg c8] at H
    have c8b0 := dF c8
    clear c8
    obtain rfl := sI H
    go_wp2
    go_ret
    exact ⟨_, by first | rfl | (simp [errW_none, errW_some] <;> rfl) | (simp only [← hji3]; first | rfl | (simp [errW_none, errW_some] <;> rfl)) | (simp [*, errW_none, errW_some] <;> rfl), by exact rA HO_5.out, bl HB⟩
   rw [if_pos c8] at H
   have c8b0 := dT c8
   clear c8
   by_cases c9 : 0 ≤ x15_1; rotate_left
   ·rw [if_neg c9] at H
    cases H
   rw [if_pos c9] at H
   have c9b0 := dT c9
   clear c9
   by_cases c10 : x15_1 < (l0.length : Int); rotate_left
   ·rw [if_neg c10] at H
    cases H
   rw [if_pos c10] at H
   have c10b0 := dT c10
   clear c10
   by_cases c11 : 0 ≤ a1; rotate_left
   ·rw [if_neg c11] at H
    cases H
   rw [if_pos c11] at H
   have c11b0 := eq_true c11
   have c11b1 := dT c11
   clear c11
   obtain ⟨ji12, hji12⟩ : ∃ j_ : Int, (shl .u64 (IntKind.u64.wrap (rd l0 x15_1)) a1) = j_ := ⟨_, rfl⟩
   simp only [hji12] at H
   have hji12_ : (IntKind.u64.wrap ((IntKind.u64.wrap (rd l0 x15_1)) * 2 ^ min a1.toNat 64)) = ji12 := hji12
   have hji12z : a1 ≤ 64 → (IntKind.u64.wrap ((IntKind.u64.wrap (rd l0 x15_1)) * 2 ^ a1.toNat)) = ji12 := shl_small hji12
   by_cases c13 : x15_1 < (x5_1.length : Int); rotate_left
   ·rw [if_neg c13] at H
    cases H
   rw [if_pos c13] at H
   have c13b0 := dT c13
   clear c13
   obtain ⟨y207, hy207⟩ : ∃ y_ : List Int, y_ = (x5_1.set (x15_1 : Int).toNat (Go.bits .or .u32 (rd x5_1 x15_1) ((ji12) % 4294967296))) := ⟨_, rfl⟩
   first | replace H := bsB H hy207 | rw [← hy207] at H
   have Ny207 := aS hy207
   clear hy207
   obtain ⟨ji15, hji15⟩ : ∃ j_ : Int, (wrap64 (x15_1 + 1)) = j_ := ⟨_, rfl⟩
   simp only [hji15] at H
   have hji15w : (IntKind.i64.wrap (x15_1 + 1)) = ji15 := (i64_w _).trans hji15
   by_cases c16 : 0 ≤ (ji15); rotate_left
   ·rw [if_neg c16] at H
    cases H
   rw [if_pos c16] at H
   have c16b0 := dT c16
   clear c16
   by_cases c17 : (ji15) < (x5_1.length : Int); rotate_left
   ·rw [if_neg c17] at H
    cases H
   rw [if_pos c17] at H
   have c17b0 := dT c17
   clear c17
   obtain ⟨y208, hy208⟩ : ∃ y_ : List Int, y_ = (y207.set ((ji15) : Int).toNat (((ji12) / 4294967296) % 4294967296)) := ⟨_, rfl⟩
   first | replace H := bsB H hy208 | rw [← hy208] at H
   have Ny208 := aS hy208
   clear hy208
   have H' := aS H
   clear H
   have p205 : 0 ≤ (x15_1 : Int) := oa
   have q205 : x15_1 < (l0.length : Int) := oa
   obtain ⟨ad205, e205, hx205_0⟩ := Kd.at_int HR0.out x15_1 p205 q205
   cases e205
   replace hx205_0 := xb HB hx205_0
   replace p205 := eq_true p205
   replace q205 := eq_true q205
   obtain ⟨Ao19, co19, eo19⟩ := Kd.R_slice HO_5.out
   subst eo19
   have p206 : 0 ≤ (x15_1 : Int) := oa
   have q206 : x15_1 < (x5_1.length : Int) := oa
   obtain ⟨ad206, e206, hx206_0⟩ := Kd.at_int (Kd.R_reads' HO_5.out).2.2 x15_1 p206 q206
   cases e206
   replace p206 := eq_true p206
   replace q206 := eq_true q206
   have p14 : 0 ≤ (x15_1 : Int) := oa
   have q14 : (x15_1 : Int) < ((x5_1.length : Int) : Int) := oa
   obtain ⟨go14, co14, eo14, gb14, gl14, cl14, HG14⟩ := Kd.R_form HO_5.out (by omega)
   (first | cases eo14 | (injection eo14 with ea_ en_ ec_; (first | subst ea_ | (injection ea_ with ea_; subst ea_)); subst ec_; clear en_))
   have GB14 := aS gb14
   have GG14 := aS HG14
   clear gb14 gl14 HG14
   (first | simp only [add_plain] at hx206_0 | skip)
   obtain ⟨hx14_0, hf14_0⟩ := Kd.R_celln 0 HO_5.out (x15_1 : Int) p14 q14
   replace p14 := eq_true p14
   replace q14 := eq_true q14
   have HP20 := Kd.R_putg HO_5.out (x15_1 : Int) (Go.bits .or .u32 (rd x5_1 x15_1) ((ji12) % 4294967296))
   go_wp2_with (first | ((with_reducible refine gate_store (t := 145) (p := 31) rfl ?_); refine store_event (t := 145) (p := 31) (v := ?vo_w21) (w1 := (wr.setCell ⟨go14, (x15_1 : Int).toNat, none⟩ (.int .u32 (Go.bits .or .u32 (rd x5_1 x15_1) ((ji12) % 4294967296))))) ?hg ?ho ?hn ?hr ?_; (case ho => rfl); (case hg => rfl); (case hn => rfl); (case hr => first | (go_simp; done) | (go_simp; rfl)); intro w21 hw; have hg : wr.grownBy w21 (some go14) := (by rw [hw]; exact HP20.2); have hp_ : Kd.R (Kd.int .u32) 145 w21 w.heap.size (fun _ => True) (.slice (some ⟨go14, 0, none⟩) x5_1.length co19) y207 := (by rw [hw, Ny207.out]; exact HP20.1); clear HP20; replace HO_5 := aS (hp_); replace HB := aS ((by rw [hw]; exact below_set (HB.out) GB14.out : Below w.heap.size w w21)); clear hg hw hp_; have p18 : 0 ≤ ((ji15) : Int) := oa; have q18 : ((ji15) : Int) < ((x5_1.length : Int) : Int) := oa; obtain ⟨hx18_0, hf18_0⟩ := Kd.R_celln 0 HO_5.out ((ji15) : Int) p18 q18; replace p18 := eq_true p18; replace q18 := eq_true q18; obtain ⟨hy22_, hz22_⟩ := Kd.R_celln 0 HO_5.out ((ji15) : Int) (oa) (oa); have HP22 := Kd.R_putg HO_5.out ((ji15) : Int) (((ji12) / 4294967296) % 4294967296)) | ((with_reducible refine gate_store (t := 145) (p := 38) rfl ?_); refine store_event (t := 145) (p := 38) (v := ?vo_w23) (w1 := (w21.setCell ⟨go14, ((ji15) : Int).toNat, none⟩ (.int .u32 (((ji12) / 4294967296) % 4294967296)))) ?hg ?ho ?hn ?hr ?_; (case ho => rfl); (case hg => rfl); (case hn => rfl); (case hr => first | (go_simp; done) | (go_simp; rfl)); intro w23 hw; have hg : w21.grownBy w23 (some go14) := (by rw [hw]; exact HP22.2); have hp_ : Kd.R (Kd.int .u32) 145 w23 w.heap.size (fun _ => True) (.slice (some ⟨go14, 0, none⟩) x5_1.length co19) y208 := (by rw [hw, Ny208.out]; exact HP22.1); clear HP22; replace HO_5 := aS (hp_); replace HB := aS ((by rw [hw]; exact below_set (HB.out) GB14.out : Below w.heap.size w w23)); clear hg hw hp_))
   go_roundg k1
   case measure => have := HK1.out; omega
   case rel => exact ⟨(y208), (ji15), (by first | rfl | (simp; done) | (simp only [← hji15] <;> (first | rfl | simp)) | (simp [*]; done)), H', ⟨by have := HK1.out; omega⟩, ⟨by exact rA HO_5.out⟩, ⟨bl HB⟩⟩
def nat_at.f (l0 : List Int) (a1 : Int) : Option (Int) := if a1 < (l0.length : Int) then (if 0 ≤ a1 then (some (IntKind.u64.wrap (rd l0 a1))) else (none)) else (some 0)
theorem nat_at.calls (A0 : Option Addr) (c0 : Nat) (l0 : List Int) (a1 : Int) (r : Int) (w : World) (hr0 : Kd.C (Kd.int .u32) w A0 l0.length l0) (hc0 : l0.length ≤ c0) (h : nat_at.f l0 a1 = some r) :
 Calls Tryz.prog 253 #[.slice A0 l0.length c0, .int .i64 a1] w fun e w' => e = .returned (.int .u64 r) ∧ Drawn0 w w' := by
 have HR0 := aS hr0
 have HC0 := aS hc0
 clear hr0 hc0
 have H := h
 unfold nat_at.f at H
 clear h
 by_cases c3 : a1 < (l0.length : Int); rotate_left
 ·rw [if_neg c3] at H
  have c3b0 := dF c3
  clear c3
  obtain rfl := sI H
  go_enter Tryz.func253, Tryz.ntmps253
  go_wp2
  go_ret
  exact ⟨by first | rfl | (simp; done) | (simp [*]; done), by repeat (first | exact Drawn0.refl _ | apply Drawn0.step)⟩
 rw [if_pos c3] at H
 have c3b0 := dT c3
 clear c3
 by_cases c4 : 0 ≤ a1
 ·rw [if_pos c4] at H
  have c4b0 := dT c4
  clear c4
  obtain rfl := sI H
  have p209 : 0 ≤ (a1 : Int) := oa
  have q209 : a1 < (l0.length : Int) := oa
  obtain ⟨ad209, e209, hx209_0⟩ := Kd.at_int HR0.out a1 p209 q209
  cases e209
  replace p209 := eq_true p209
  replace q209 := eq_true q209
  go_enter Tryz.func253, Tryz.ntmps253
  go_wp2
  go_ret
  exact ⟨by first | rfl | (simp; done) | (simp [*]; done), by repeat (first | exact Drawn0.refl _ | apply Drawn0.step)⟩
 ·rw [if_neg c4] at H
  cases H
def nat_right.l0 : Nat → Int → List Int → List Int → Int → Int → Option (List Int)
 | 0, _, _, _, _, _ => none
 | k + 1, x1, x5, x11, x12, x13 => if x13 < x12 then (if 0 ≤ x13 then (if x13 < (x11.length : Int) then (if x13 < (x5.length : Int) then (if 0 ≤ x1 then ((some (x5.set (x13 : Int).toNat (Go.bits .or .u32 (rd x5 x13) (shr .u32 (rd x11 x13) x1)) : List Int)).bind fun y221 => (if x13 > 0 then (if 0 ≤ (wrap64 (x13 - 1)) then (if (wrap64 (x13 - 1)) < (x5.length : Int) then (nat_right.l0 k x1 (y221.set ((wrap64 (x13 - 1)) : Int).toNat (Go.bits .or .u32 (rd y221 (wrap64 (x13 - 1))) ((shr .u64 (IntKind.u64.wrap ((IntKind.u64.wrap (rd x11 x13)) * 4294967296)) x1) % 4294967296))) x11 x12 (wrap64 (x13 + 1))) else (none)) else (none)) else (nat_right.l0 k x1 y221 x11 x12 (wrap64 (x13 + 1))))) else (none)) else (none)) else (none)) else (none)) else ((nat_trim.f k x5).bind fun t224 => (some t224))
def nat_right.f (k : Nat) (l0 : List Int) (a1 : Int) : Option (List Int) := if 0 ≤ (l0.length : Int) then (if ((l0.length : Int) : Int).toNat ≤ 70368744177664 then (nat_right.l0 k a1 (List.replicate ((l0.length : Int) : Int).toNat 0) l0 (l0.length : Int) 0) else (none)) else (none)
def nat_right.T5 : Bool × List (List Nat × List Nat) := (true, [([], []), ([], []), ([0, 1], [0, 1]), ([2], [2]), ([], []), ([], []), ([4, 5], [4, 5]), ([3, 6], [3, 6]), ([0, 1, 0, 1, 2, 3, 4, 5, 6, 7], [0, 1]), ([8, 7, 0, 1, 2, 3, 4, 5, 6, 7], [7, 8])])
def nat_right.B5 : List Nat := [0, 0, 3, 7, 0, 0, 48, 127, 255, 511]
theorem nat_right.tab5 : rtab .any (opsOf Tryz.f250 5) = nat_right.T5 := by kernel_rfl
theorem nat_right.bits5 : waitsOk nat_right.T5.2 nat_right.B5 = true := by kernel_rfl
def nat_right.T7 : Bool × List (List Nat × List Nat) := (true, [([], []), ([], []), ([1], [1]), ([0, 2], [0, 2]), ([3], [3]), ([], []), ([5], [5]), ([6], [6]), ([], []), ([7, 8], [7, 8]), ([9], [9]), ([4, 10], [4, 10]), ([0, 2, 0, 1, 2, 3, 4, 5, 6, 7, 8, 9, 10, 11], [0, 2]), ([12, 11, 0, 1, 2, 3, 4, 5, 6, 7, 8, 9, 10, 11], [11, 12])])
def nat_right.B7 : List Nat := [0, 0, 2, 7, 15, 0, 32, 96, 0, 480, 992, 2047, 4095, 8191]
theorem nat_right.tab7 : rtab .any (opsOf Tryz.f250 7) = nat_right.T7 := by kernel_rfl
theorem nat_right.bits7 : waitsOk nat_right.T7.2 nat_right.B7 = true := by kernel_rfl
theorem nat_right.calls (k : Nat) (A0 : Option Addr) (c0 : Nat) (l0 : List Int) (a1 : Int) (r : List Int) (w : World) (hr0 : Kd.C (Kd.int .u32) w A0 l0.length l0) (hc0 : l0.length ≤ c0) (h : nat_right.f k l0 a1 = some r) :
 Calls Tryz.prog 250 #[.slice A0 l0.length c0, .int .i64 a1] w fun e w' => ∃ v0_ : Value, e = .returned (v0_) ∧ Kd.V (Kd.int .u32) 145 w' w.heap.size (fun k_ => (w.heap.size ≤ k_)) v0_ r ∧ Below w.heap.size w w' := by
 have HR0 := aS hr0
 have HC0 := aS hc0
 clear hr0 hc0
 have HB := aS (Below.refl w.heap.size w)
 have H := h
 unfold nat_right.f at H
 clear h
 by_cases c3 : 0 ≤ (l0.length : Int); rotate_left
 ·rw [if_neg c3] at H
  cases H
 rw [if_pos c3] at H
 have c3b0 := eq_true c3
 have c3b1 := dT c3
 clear c3
 by_cases c4 : ((l0.length : Int) : Int).toNat ≤ 70368744177664; rotate_left
 ·rw [if_neg c4] at H
  cases H
 rw [if_pos c4] at H
 have c4b0 := eq_true c4
 have c4b1 := dT c4
 clear c4
 obtain ⟨y216, hy216⟩ : ∃ y_ : List Int, y_ = (List.replicate ((l0.length : Int) : Int).toNat 0) := ⟨_, rfl⟩
 first | replace H := bsB H hy216 | rw [← hy216] at H
 have Ny216 := aS hy216
 clear hy216
 have H' := aS H
 clear H
 go_enter Tryz.func250, Tryz.ntmps250
 go_wp2_with (first | ((with_reducible refine gate_dst (N := 10) rfl ?_); refine Kd.R_make (Kd.int .u32) _ 145 rfl (N := 10) rfl 59 _ _ rfl (l0.length : Int) rfl rfl Tryz.underlying59 (.int .u32 0) 4 info145 rfl (by decide) (by omega) 0 (ok := fun _ => True) (okp := fun _ => True) rfl (fun _ hk => hk) trivial (oa) (Nat.le_trans (Nat.mul_le_mul_right _ (oa : (l0.length : Int).toNat ≤ 70368744177664)) (by omega)) (Below.refl _ _) (Nat.le_refl _) ?_; intro v217 w5 ho6 hb hg_ hnew_; clear hg_ hnew_; (first | rw [← Ny216.out] at ho6 | (simp only [Int.reduceToNat] at ho6; rw [← Ny216.out] at ho6)); have HO218 := aS (Kd.R_lower (Kd.R_newM (M := fun k_ => (w.heap.size ≤ k_)) ho6 (below_size (bl HB)) (fun k_ h_ => h_)) (below_size (bl HB))); replace HB := aS (bs_ (bl HB) hb); clear hb ho6))
 go_loopg [13] k (fun kq v13 w' => ∃ (x5_1 : List Int) (x13_1 : Int), v13 = .int .i64 x13_1 ∧ Aside0 (nat_right.l0 kq a1 x5_1 l0 (l0.length : Int) x13_1 = some r) ∧ Aside0 (kq ≤ k) ∧ Aside0 (Kd.R (Kd.int .u32) 145 w' w.heap.size (fun k_ => (w.heap.size ≤ k_)) v217 x5_1) ∧ Aside0 (Below w.heap.size w w'))
 case atStart => exact ⟨(y216), (0), rs, H', ⟨Nat.le_refl _⟩, ⟨by exact rA (Kd.R_mono HO218.out (fun _ hk => hk.1))⟩, ⟨bl HB⟩⟩
 case round =>
  clear H'
  (try clear c2); (try clear p2); (try clear c3); (try clear c3b0); (try clear c3b1); (try clear c4); (try clear c4b0); (try clear c4b1)
  obtain ⟨x5_1, x13_1, rfl, HA, HK1, HO_5, HB⟩ := hrel
  cases gk with
  | zero => exact absurd HA.out (by simp [nat_right.l0])
  | succ k1 =>
   have H := HA.out
   clear HA
   simp only [nat_right.l0] at H
   by_cases c7 : x13_1 < (l0.length : Int); rotate_left
   ·rw [if_neg c7] at H
    have c7b0 := dF c7
    clear c7
    replace H := bS H
    obtain ⟨t224, A300, H⟩ := H
    (try dsimp only at H)
    have A30 := aS A300
    clear A300
    obtain rfl := sI H
    obtain ⟨Ao31, co31, eo31⟩ := Kd.R_slice HO_5.out
    subst eo31
    go_wp2_with (first | ((with_reducible refine gate_callee (f := 220) rfl ?_); refine gl 44 Tryz.func220 #[.slice Ao31 x5_1.length co31] ?_; (with_reducible refine (nat_trim.calls k1 (fun k_ => some k_ = (.slice Ao31 x5_1.length co31 : Value).ownBlock) _ _ x5_1 t224 _ ?side1 A30.out).mono ?_); (case side1 => exact Kd.R_V (Kd.R_tight rfl (HO_5.out))); rintro e w32 ⟨v225, rfl, ho0, hb⟩; refine ⟨_, rfl, ?_⟩; have HO226 := aS (Kd.V_lower (Kd.V_mono (ok' := fun k_ => (w.heap.size ≤ k_)) ho0 (fun k_ hk_ => Or.elim hk_ (fun hs_ => ((HO_5.out).1 k_ hs_.symm)) (fun hn_ => (Nat.le_trans (below_size (bl HB)) hn_)))) (below_size (bl HB))); replace HO_5 := aS (Kd.R_below (by exact rA HO_5.out) hb); replace HB := aS (bs_ (bl HB) hb); clear hb ho0))
    go_ret
    exact ⟨_, re, by exact vA HO226.out, bl HB⟩
   rw [if_pos c7] at H
   have c7b0 := dT c7
   clear c7
   by_cases c8 : 0 ≤ x13_1; rotate_left
   ·rw [if_neg c8] at H
    cases H
   rw [if_pos c8] at H
   have c8b0 := dT c8
   clear c8
   by_cases c9 : x13_1 < (l0.length : Int); rotate_left
   ·rw [if_neg c9] at H
    cases H
   rw [if_pos c9] at H
   have c9b0 := dT c9
   clear c9
   by_cases c10 : x13_1 < (x5_1.length : Int); rotate_left
   ·rw [if_neg c10] at H
    cases H
   rw [if_pos c10] at H
   have c10b0 := dT c10
   clear c10
   by_cases c11 : 0 ≤ a1; rotate_left
   ·rw [if_neg c11] at H
    cases H
   rw [if_pos c11] at H
   have c11b0 := eq_true c11
   have c11b1 := dT c11
   clear c11
   obtain ⟨ji12, hji12⟩ : ∃ j_ : Int, (shr .u32 (rd l0 x13_1) a1) = j_ := ⟨_, rfl⟩
   simp only [hji12] at H
   have hji12_ : ((rd l0 x13_1) / 2 ^ min a1.toNat 32) = ji12 := hji12
   have hji12z : a1 ≤ 32 → ((rd l0 x13_1) / 2 ^ a1.toNat) = ji12 := shr_small hji12
   obtain ⟨y221, hy221⟩ : ∃ y_ : List Int, y_ = (x5_1.set (x13_1 : Int).toNat (Go.bits .or .u32 (rd x5_1 x13_1) (ji12))) := ⟨_, rfl⟩
   first | replace H := bsB H hy221 | rw [← hy221] at H
   have Ny221 := aS hy221
   clear hy221
   by_cases c14 : x13_1 > 0; rotate_left
   ·rw [if_neg c14] at H
    have c14b0 := dF c14
    clear c14
    have H' := aS H
    clear H
    have p219 : 0 ≤ (x13_1 : Int) := oa
    have q219 : x13_1 < (l0.length : Int) := oa
    obtain ⟨ad219, e219, hx219_0⟩ := Kd.at_int HR0.out x13_1 p219 q219
    cases e219
    replace hx219_0 := xb HB hx219_0
    replace p219 := eq_true p219
    replace q219 := eq_true q219
    try go_wp2
    replace HO_5 := aS (Kd.R_drew HO_5.out)
    replace HB := aS (below_drew1 HB.out)
    obtain ⟨Ao28, co28, eo28⟩ := Kd.R_slice HO_5.out
    (first | subst eo28 | (injection eo28 with f1_ f2_ f3_; have f4_ := f1_.symm; have f5_ := f3_.symm; clear f1_ f2_ f3_; subst f4_; subst f5_))
    have p220 : 0 ≤ (x13_1 : Int) := oa
    have q220 : x13_1 < (x5_1.length : Int) := oa
    obtain ⟨ad220, e220, hx220_0⟩ := Kd.at_int (Kd.R_reads' HO_5.out).2.2 x13_1 p220 q220
    cases e220
    replace p220 := eq_true p220
    replace q220 := eq_true q220
    have p13 : 0 ≤ (x13_1 : Int) := oa
    have q13 : (x13_1 : Int) < ((x5_1.length : Int) : Int) := oa
    obtain ⟨go13, co13, eo13, gb13, gl13, cl13, HG13⟩ := Kd.R_form HO_5.out (by omega)
    (first | cases eo13 | (injection eo13 with ea_ en_ ec_; (first | subst ea_ | (injection ea_ with ea_; subst ea_)); subst ec_; clear en_))
    have GB13 := aS gb13
    have GG13 := aS HG13
    clear gb13 gl13 HG13
    (first | simp only [add_plain] at hx220_0 | skip)
    obtain ⟨hx13_0, hf13_0⟩ := Kd.R_celln 0 HO_5.out (x13_1 : Int) p13 q13
    replace p13 := eq_true p13
    replace q13 := eq_true q13
    have HP29 := Kd.R_putn HO_5.out (x13_1 : Int) (Go.bits .or .u32 (rd x5_1 x13_1) (ji12))
    rw [← Ny221.out] at HP29
    have HQ29 := aS HP29
    clear HP29
    refine start_ (n := 10) (S := fun w' => w'.cell? ⟨go13, (x13_1).toNat, none⟩ = some (.int .u32 (rd x5_1 x13_1))) (ds := [9]) (mk 10 0) (by kernel_rfl) rfl (by kernel_rfl) (hx220_0) (fun hHeld => ?_); refine with_tabW nat_right.tab5 nat_right.bits5 (fun HT_ HW_ => ?_)
    generalize wr.drew = w27 at HO_5 HB GG13 HQ29 hf13_0 hx13_0 hx220_0 hHeld ⊢
    refine pu 0 18 (mk 10 1) (any_of HT_.out (by kernel_rfl)) ?_
    refine pu 1 19 (mk 10 3) (any_of HT_.out (by kernel_rfl)) ?_
    refine pu 2 20 (mk 10 7) (any_of HT_.out (by kernel_rfl)) ?_
    refine pu 4 22 (mk 10 23) (any_of HT_.out (by kernel_rfl)) ?_
    refine pu 5 23 (mk 10 55) (any_of HT_.out (by kernel_rfl)) ?_
    refine pu 6 24 (mk 10 119) (any_of HT_.out (by kernel_rfl)) ?_
    refine tk 3 21 (mk 10 127) (take_ofW HT_.out HW_.out (by kernel_rfl)) hHeld ?_
    refine pu 7 25 (mk 10 255) (any_of HT_.out (by kernel_rfl)) ?_
    refine pu 8 26 (mk 10 511) (any_of HT_.out (by kernel_rfl)) ?_
    refine last_ (i := 9) (N := none) (mk 10 1023) rfl rfl (one_of HT_.out (by kernel_rfl)) (by decide) (fun K hK => ?_)
    refine skip_ (w1 := ?_) (by rfl) rfl ?_ ?_
    rotate_left
    ·go_simp
     rfl
    refine hK.out _ _ ?_
    clear hK K
    refine done_ (done_of HT_.out (by kernel_rfl)) ?_
    try go_wp2
    go_roundg k1
    case measure => have := HK1.out; omega
    case rel => exact ⟨(y221), (wrap64 (x13_1 + 1)), rs, H', ⟨by have := HK1.out; omega⟩, ⟨by exact rA HQ29.out⟩, ⟨bl HB⟩⟩
   rw [if_pos c14] at H
   have c14b0 := dT c14
   clear c14
   obtain ⟨ji15, hji15⟩ : ∃ j_ : Int, (wrap64 (x13_1 - 1)) = j_ := ⟨_, rfl⟩
   simp only [hji15] at H
   have hji15w : (IntKind.i64.wrap (x13_1 - 1)) = ji15 := (i64_w _).trans hji15
   by_cases c16 : 0 ≤ (ji15); rotate_left
   ·rw [if_neg c16] at H
    cases H
   rw [if_pos c16] at H
   have c16b0 := dT c16
   clear c16
   by_cases c17 : (ji15) < (x5_1.length : Int); rotate_left
   ·rw [if_neg c17] at H
    cases H
   rw [if_pos c17] at H
   have c17b0 := dT c17
   clear c17
   have c18b0 := eq_true (oa : 0 ≤ a1)
   obtain ⟨ji19, hji19⟩ : ∃ j_ : Int, (shr .u64 (IntKind.u64.wrap ((IntKind.u64.wrap (rd l0 x13_1)) * 4294967296)) a1) = j_ := ⟨_, rfl⟩
   simp only [hji19] at H
   have hji19_ : ((IntKind.u64.wrap ((IntKind.u64.wrap (rd l0 x13_1)) * 4294967296)) / 2 ^ min a1.toNat 64) = ji19 := hji19
   have hji19z : a1 ≤ 64 → ((IntKind.u64.wrap ((IntKind.u64.wrap (rd l0 x13_1)) * 4294967296)) / 2 ^ a1.toNat) = ji19 := shr_small hji19
   obtain ⟨y223, hy223⟩ : ∃ y_ : List Int, y_ = (y221.set ((ji15) : Int).toNat (Go.bits .or .u32 (rd y221 (ji15)) ((ji19) % 4294967296))) := ⟨_, rfl⟩
   first | replace H := bsB H hy223 | rw [← hy223] at H
   have Ny223 := aS hy223
   clear hy223
   have H' := aS H
   clear H
   have p219 : 0 ≤ (x13_1 : Int) := oa
   have q219 : x13_1 < (l0.length : Int) := oa
   obtain ⟨ad219, e219, hx219_0⟩ := Kd.at_int HR0.out x13_1 p219 q219
   cases e219
   replace hx219_0 := xb HB hx219_0
   replace p219 := eq_true p219
   replace q219 := eq_true q219
   try go_wp2
   replace HO_5 := aS (Kd.R_drew HO_5.out)
   replace HB := aS (below_drew1 HB.out)
   obtain ⟨Ao22, co22, eo22⟩ := Kd.R_slice HO_5.out
   (first | subst eo22 | (injection eo22 with f1_ f2_ f3_; have f4_ := f1_.symm; have f5_ := f3_.symm; clear f1_ f2_ f3_; subst f4_; subst f5_))
   have p220 : 0 ≤ (x13_1 : Int) := oa
   have q220 : x13_1 < (x5_1.length : Int) := oa
   obtain ⟨ad220, e220, hx220_0⟩ := Kd.at_int (Kd.R_reads' HO_5.out).2.2 x13_1 p220 q220
   cases e220
   replace p220 := eq_true p220
   replace q220 := eq_true q220
   have p13 : 0 ≤ (x13_1 : Int) := oa
   have q13 : (x13_1 : Int) < ((x5_1.length : Int) : Int) := oa
   obtain ⟨go13, co13, eo13, gb13, gl13, cl13, HG13⟩ := Kd.R_form HO_5.out (by omega)
   (first | cases eo13 | (injection eo13 with ea_ en_ ec_; (first | subst ea_ | (injection ea_ with ea_; subst ea_)); subst ec_; clear en_))
   have GB13 := aS gb13
   have GG13 := aS HG13
   clear gb13 gl13 HG13
   (first | simp only [add_plain] at hx220_0 | skip)
   obtain ⟨hx13_0, hf13_0⟩ := Kd.R_celln 0 HO_5.out (x13_1 : Int) p13 q13
   replace p13 := eq_true p13
   replace q13 := eq_true q13
   have HP23 := Kd.R_putn HO_5.out (x13_1 : Int) (Go.bits .or .u32 (rd x5_1 x13_1) (ji12))
   rw [← Ny221.out] at HP23
   have HQ23 := aS HP23
   clear HP23
   refine start_ (n := 10) (S := fun w' => w'.cell? ⟨go13, (x13_1).toNat, none⟩ = some (.int .u32 (rd x5_1 x13_1))) (ds := [9]) (mk 10 0) (by kernel_rfl) rfl (by kernel_rfl) (hx220_0) (fun hHeld => ?_); refine with_tabW nat_right.tab5 nat_right.bits5 (fun HT_ HW_ => ?_)
   generalize wr.drew = w21 at HO_5 HB GG13 HQ23 hf13_0 hx13_0 hx220_0 hHeld ⊢
   refine pu 0 18 (mk 10 1) (any_of HT_.out (by kernel_rfl)) ?_
   refine pu 1 19 (mk 10 3) (any_of HT_.out (by kernel_rfl)) ?_
   refine pu 2 20 (mk 10 7) (any_of HT_.out (by kernel_rfl)) ?_
   refine pu 4 22 (mk 10 23) (any_of HT_.out (by kernel_rfl)) ?_
   refine pu 5 23 (mk 10 55) (any_of HT_.out (by kernel_rfl)) ?_
   refine pu 6 24 (mk 10 119) (any_of HT_.out (by kernel_rfl)) ?_
   refine tk 3 21 (mk 10 127) (take_ofW HT_.out HW_.out (by kernel_rfl)) hHeld ?_
   refine pu 7 25 (mk 10 255) (any_of HT_.out (by kernel_rfl)) ?_
   refine pu 8 26 (mk 10 511) (any_of HT_.out (by kernel_rfl)) ?_
   refine last_ (i := 9) (N := none) (mk 10 1023) rfl rfl (one_of HT_.out (by kernel_rfl)) (by decide) (fun K hK => ?_)
   refine skip_ (w1 := ?_) (by rfl) rfl ?_ ?_
   rotate_left
   ·go_simp
    rfl
   refine hK.out _ _ ?_
   clear hK K
   refine done_ (done_of HT_.out (by kernel_rfl)) ?_
   try go_wp2
   have n0_ : Aside0 (Kd.R (Kd.int .u32) 145 (w21.setCell ⟨go13, (x13_1 : Int).toNat, none⟩ (.int .u32 (Go.bits .or .u32 (rd x5_1 x13_1) (ji12)))) w.heap.size (fun k_ => (w.heap.size ≤ k_)) (.slice (some ⟨go13, 0, none⟩) x5_1.length co22) y221) := ⟨by exact rA HQ23.out⟩
   have n1_ : Aside0 (Below w.heap.size w (w21.setCell ⟨go13, (x13_1 : Int).toNat, none⟩ (.int .u32 (Go.bits .or .u32 (rd x5_1 x13_1) (ji12))))) := ⟨bl HB⟩
   (try clear HO_5)
   (try clear HB)
   generalize (w21.setCell ⟨go13, (x13_1 : Int).toNat, none⟩ (.int .u32 (Go.bits .or .u32 (rd x5_1 x13_1) (ji12)))) = w24 at n0_ n1_ ⊢
   have HO_5 := n0_
   have HB := n1_
   clear n0_ n1_
   replace HO_5 := aS (Kd.R_drew HO_5.out)
   replace HB := aS (below_drew1 HB.out)
   have p222 : 0 ≤ ((ji15) : Int) := oa
   have q222 : (ji15) < (y221.length : Int) := (by have h_ : ((ji15) : Int) < ((x5_1.length : Int) : Int) := oa; first | (have e_ := (Kd.R_reads' HO_5.out).1; omega) | simpa only [Ny221.out, List.length_set] using h_)
   have ql222 : (((ji15) : Int) < ((x5_1.length : Int) : Int)) = True := eq_true (oa)
   obtain ⟨ad222, e222, hx222_0⟩ := Kd.at_int (Kd.R_reads' HO_5.out).2.2 (ji15) p222 q222
   obtain rfl : (⟨go13, 0, none⟩ : Addr) = ad222 := (by injection e222)
   (first | simp only [add_plain] at hx222_0 | simp only [add_at] at hx222_0 | simp only [Addr.add, Nat.zero_add] at hx222_0 | skip)
   replace p222 := eq_true p222
   replace q222 := eq_true q222
   have p20 : 0 ≤ ((ji15) : Int) := oa
   have q20 : ((ji15) : Int) < ((x5_1.length : Int) : Int) := oa
   obtain ⟨hx20_0, hf20_0⟩ := Kd.R_celln 0 HO_5.out ((ji15) : Int) p20 q20
   replace p20 := eq_true p20
   replace q20 := eq_true q20
   have HP26 := Kd.R_putn HO_5.out ((ji15) : Int) (Go.bits .or .u32 (rd y221 (ji15)) ((ji19) % 4294967296))
   rw [← Ny223.out] at HP26
   have HQ26 := aS HP26
   clear HP26
   refine start_ (n := 14) (S := fun w' => w'.cell? ⟨go13, ((ji15)).toNat, none⟩ = some (.int .u32 (rd y221 (ji15)))) (ds := [13]) (mk 14 0) (by kernel_rfl) rfl (by kernel_rfl) (hx222_0) (fun hHeld => ?_); refine with_tabW nat_right.tab7 nat_right.bits7 (fun HT_ HW_ => ?_)
   generalize w24.drew = w25 at HO_5 HB HQ23 HQ26 hf20_0 hx20_0 hx222_0 hHeld ⊢
   refine pu 0 29 (mk 14 1) (any_of HT_.out (by kernel_rfl)) ?_
   refine pu 1 30 (mk 14 3) (any_of HT_.out (by kernel_rfl)) ?_
   refine pu 2 31 (mk 14 7) (any_of HT_.out (by kernel_rfl)) ?_
   refine pu 3 32 (mk 14 15) (any_of HT_.out (by kernel_rfl)) ?_
   refine pu 5 34 (mk 14 47) (any_of HT_.out (by kernel_rfl)) ?_
   refine pu 6 35 (mk 14 111) (any_of HT_.out (by kernel_rfl)) ?_
   refine pu 7 36 (mk 14 239) (any_of HT_.out (by kernel_rfl)) ?_
   refine pu 8 37 (mk 14 495) (any_of HT_.out (by kernel_rfl)) ?_
   refine pu 9 38 (mk 14 1007) (any_of HT_.out (by kernel_rfl)) ?_
   refine pu 10 39 (mk 14 2031) (any_of HT_.out (by kernel_rfl)) ?_
   refine tk 4 33 (mk 14 2047) (take_ofW HT_.out HW_.out (by kernel_rfl)) hHeld ?_
   refine pu 11 40 (mk 14 4095) (any_of HT_.out (by kernel_rfl)) ?_
   refine pu 12 41 (mk 14 8191) (any_of HT_.out (by kernel_rfl)) ?_
   refine last_ (i := 13) (N := none) (mk 14 16383) rfl rfl (one_of HT_.out (by kernel_rfl)) (by decide) (fun K hK => ?_)
   refine skip_ (w1 := ?_) (by rfl) rfl ?_ ?_
   rotate_left
   ·go_simp
    rfl
   refine hK.out _ _ ?_
   clear hK K
   refine done_ (done_of HT_.out (by kernel_rfl)) ?_
   try go_wp2
   go_roundg k1
   case measure => have := HK1.out; omega
   case rel => exact ⟨(y223), (wrap64 (x13_1 + 1)), rs, H', ⟨by have := HK1.out; omega⟩, ⟨by exact rA HQ26.out⟩, ⟨bl HB⟩⟩
end Go.Proofs.YtbkknoipgmlcmaaGreatDoor.P

