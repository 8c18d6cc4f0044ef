import Derived.Test.YtbkknoipgmlcmaaGreatDoorQGM26
set_option linter.all false
set_option maxHeartbeats 8000000
set_option maxRecDepth 100000
namespace Go.Proofs.QP
open Go.RowKit Go.Proofs.PW Go.Proofs.PL Go.Proofs.PM Go.Proofs.FX
section
section
attribute [local go_sem] yd zV
attribute [local go_sem] xf xg xD xE yI yJ xl xm
def yA.l0 : Nat → List Int → Option (List Int)
 | 0, _ => none
 | k + 1, x0 => if (x0.length : Int) > 0 then (if 0 ≤ (wrap64 ((x0.length : Int) - 1)) then (if (wrap64 ((x0.length : Int) - 1)) < (x0.length : Int) then (if (rd x0 (wrap64 ((x0.length : Int) - 1))) = 0 then (if (wrap64 ((x0.length : Int) - 1)) ≤ (x0.length : Int) then (yA.l0 k (x0.take ((wrap64 ((x0.length : Int) - 1)) : Int).toNat)) else (none)) else (some x0)) else (none)) else (none)) else (some x0)
def yA.f (k : Nat) (l0 : List Int) : Option (List Int) := yA.l0 k l0
theorem yA.calls (k : Nat) (P0_ : Nat → Prop) (A0 : Option Addr) (c0 : Nat) (l0 : List Int) (r : List Int) (w : World) (hs0 : Kd.V (Kd.int .u32) 145 w w.heap.size (fun k_ => P0_ k_) (.slice A0 l0.length c0) l0) (h : yA.f k l0 = some r) :
 Calls Tryz.prog 220 #[.slice A0 l0.length c0] w fun e w' => ∃ v0_ : Value, e = .returned (v0_) ∧ Kd.V (Kd.int .u32) 145 w' w.heap.size (fun k_ => (P0_ k_ ∨ w.heap.size ≤ k_)) v0_ r ∧ Below w.heap.size w w' := by
 have HO0 := aS (show Kd.V (Kd.int .u32) 145 w w.heap.size (fun k_ => (P0_ k_ ∨ w.heap.size ≤ k_)) (.slice A0 l0.length c0) l0 from Kd.xi hs0 (fun k_ hk => .inl hk))
 have HB := hR w
 have H := h
 unfold yA.f at H
 clear h
 have H' := aS H
 clear H
 go_enter Tryz.func220, Tryz.ntmps220
 go_wp2
 go_loopg [0] k (fun kq v0 w' => ∃ (x0_1 : List Int), Aside0 (yA.l0 kq x0_1 = some r) ∧ Aside0 (kq ≤ k) ∧ Aside0 (Kd.V (Kd.int .u32) 145 w' w.heap.size (fun k_ => (P0_ k_ ∨ w.heap.size ≤ k_)) v0 x0_1) ∧ Aside0 (Below w.heap.size w w'))
 case atStart => exact ⟨(l0), H', ⟨Nat.le_refl _⟩, ⟨by exact vA HO0.out⟩, ⟨bl HB⟩⟩
 case round =>
  clear H'
  obtain ⟨x0_1, HA, HK1, HO_0, HB⟩ := hrel
  cases gk with
  | zero => exact absurd HA.out (by simp [yA.l0])
  | succ k1 =>
   have H := HA.out
   clear HA
   simp only [yA.l0] at H
   by_cases c2 : (x0_1.length : Int) > 0; rotate_left
   ·rw [if_neg c2] at H
    have c2b0 := dF c2
    have c2b1 : decide (0 < x0_1.length) = false := dF (by omega)
    clear c2
    obtain rfl := sI H
    obtain ⟨Ao12, co12, eo12⟩ := Kd.xO HO_0.out
    subst eo12
    go_wp2
    go_ret
    exact ⟨_, re, by exact vA HO_0.out, bl HB⟩
   rw [if_pos c2] at H
   have c2b0 := dT c2
   have c2b1 : decide (0 < x0_1.length) = true := dT (by omega)
   clear c2
   obtain ⟨ji3, hji3⟩ : ∃ j_ : Int, (wrap64 ((x0_1.length : Int) - 1)) = j_ := ⟨_, rfl⟩
   simp only [hji3] at H
   have hji3w : (IntKind.i64.wrap ((x0_1.length : Int) - 1)) = ji3 := (yh _).trans hji3
   replace H := iD_ H
   obtain ⟨c4b0, H⟩ := H
   replace H := iD_ H
   obtain ⟨c5b0, H⟩ := H
   by_cases c6 : (rd x0_1 (ji3)) = 0; rotate_left
   ·rw [if_neg c6] at H
    have c6b0 := bF c6
    have c6b1 := nT c6
    obtain rfl := sI H
    obtain ⟨Ao11, co11, eo11⟩ := Kd.xO HO_0.out
    subst eo11
    obtain ⟨ad183, e183, hx183_0⟩ := Kd.zT (Kd.zM HO_0.out).2.2 (ji3) oa oa
    cases e183
    have p183 : (0 ≤ ((ji3) : Int)) = True := tO
    have q183 : ((ji3) < (x0_1.length : Int)) = True := tO
    go_wp2
    go_ret
    exact ⟨_, by first | rfl | (simp [yY, yZ] <;> rfl) | (simp only [← hji3]; first | rfl | (simp [yY, yZ] <;> rfl)) | (simp [*, yY, yZ] <;> rfl), by exact vA HO_0.out, bl HB⟩
   rw [if_pos c6] at H
   have c6b0 := bT c6
   have c6b1 := nF c6
   clear c6
   have c7b0 := eq_true (oa : 0 ≤ (ji3))
   replace H := iE_ H
   obtain ⟨c8b0, c8b1, H⟩ := H
   obtain ⟨y184, Ny184⟩ := yE (x0_1.take ((ji3) : Int).toNat : List Int)
   rw [← Ny184.out] at H
   have H' := aS H
   clear H
   obtain ⟨Ao9, co9, eo9⟩ := Kd.xO HO_0.out
   subst eo9
   obtain ⟨ad183, e183, hx183_0⟩ := Kd.zT (Kd.zM HO_0.out).2.2 (ji3) oa oa
   cases e183
   have p183 : (0 ≤ ((ji3) : Int)) = True := tO
   have q183 : ((ji3) < (x0_1.length : Int)) = True := tO
   have q10 : ((ji3) : Int) ≤ ((x0_1.length : Int) : Int) := oa
   obtain ⟨i010, hi010, _, hsz10, _⟩ := info_parts xR
   have hroom10 : x0_1.length ≤ co9 := (Kd.zM HO_0.out).2.1
   have hC10 : Kd.F (Kd.int .u32) _ _ (some ad183) x0_1.length x0_1 := (Kd.z9U (base := w.heap.size) HO_0.out).2.2
   have hcut10 := z6g (P := Tryz.prog) 59 145 .i64 Tryz.underlying59 hi010 (some ad183) x0_1.length co9 (ji3) (oa) q10 hroom10
   have hr10 := Kd.zcx (m := ((ji3) : Int).toNat) hC10 (by omega)
   have hy10 : y184.length = ((ji3) : Int).toNat := (by rw [Ny184.out, List.length_take]; omega)
   rw [← Ny184.out] at hr10
   rw [← hy10] at hcut10
   have HO188 := aS (show Kd.V (Kd.int .u32) 145 _ w.heap.size _ (.slice (some ad183) y184.length co9) y184 from Kd.z1a (by omega) hr10)
   have HC188 := aS (show y184.length ≤ co9 from by omega)
   clear hr10 hC10 hroom10 hi010 hsz10
   have KY10 := aS hy10
   clear hy10
   replace q10 := eq_true q10
   go_wp2
   go_roundg k1
   case measure => have := HK1.out; omega
   case rel => exact ⟨(y184), H', ⟨by have := HK1.out; omega⟩, ⟨by exact vA HO188.out⟩, ⟨bl HB⟩⟩
def xK.l0 : Nat → List Int → Int → List Int → Int → Int → Option (List Int × Int)
 | 0, _, _, _, _, _ => none
 | k + 1, x0, x1, x6, x7, x8 => if x8 ≥ 0 then (if 0 ≤ x8 then (if x8 < (x0.length : Int) then (if (IntKind.u64.wrap (x1)) = 0 then (none) else (if x8 < (x6.length : Int) then (xK.l0 k x0 x1 (x6.set (x8 : Int).toNat ((IntKind.u64.wrap (Int.tdiv (Go.bits .or .u64 (IntKind.u64.wrap (x7 * 4294967296)) (IntKind.u64.wrap (rd x0 x8))) (IntKind.u64.wrap (x1)))) % 4294967296)) (Int.tmod (Go.bits .or .u64 (IntKind.u64.wrap (x7 * 4294967296)) (IntKind.u64.wrap (rd x0 x8))) (IntKind.u64.wrap (x1))) (wrap64 (x8 - 1))) else (none))) else (none)) else (none)) else ((yA.f k x6).bind fun t194 => (some (t194, (x7) % 4294967296)))
def xK.f (k : Nat) (l0 : List Int) (a1 : Int) : Option (List Int × Int) := if 0 ≤ (l0.length : Int) then (if ((l0.length : Int) : Int).toNat ≤ 70368744177664 then (xK.l0 k l0 a1 (List.replicate ((l0.length : Int) : Int).toNat 0) 0 (wrap64 ((l0.length : Int) - 1))) else (none)) else (none)
theorem xK.calls (k : Nat) (A0 : Option Addr) (c0 : Nat) (l0 : List Int) (a1 : Int) (r1 : List Int) (r2 : Int) (w : World) (hr0 : Kd.C (Kd.int .u32) w A0 l0.length l0) (hc0 : l0.length ≤ c0) (h : xK.f k l0 a1 = some (r1, r2)) :
 Calls Tryz.prog 190 #[.slice A0 l0.length c0, .int .u32 a1] w fun e w' => ∃ v0_ : Value, e = .returned (.tuple #[v0_, .int .u32 r2]) ∧ Kd.V (Kd.int .u32) 145 w' w.heap.size (fun k_ => (w.heap.size ≤ k_)) v0_ r1 ∧ Below w.heap.size w w' := by
 have HR0 := aS hr0
 have HC0 := aS hc0
 clear hr0 hc0
 have HB := hR w
 have H := h
 unfold xK.f at H
 clear h
 replace H := iE_ H
 obtain ⟨c3b0, c3b1, H⟩ := H
 replace H := iE_ H
 obtain ⟨c4b0, c4b1, H⟩ := H
 obtain ⟨y189, Ny189⟩ := yE (List.replicate ((l0.length : Int) : Int).toNat 0 : List Int)
 rw [← Ny189.out] at H
 have H' := aS H
 clear H
 go_enter Tryz.func190, Tryz.ntmps190
 go_wp2_with (first | ((with_reducible refine zq (N := 11) rfl ?_); refine Kd.z1w (Kd.int .u32) _ 145 rfl (N := 11) rfl 59 _ _ rfl (l0.length : Int) rfl rfl Tryz.underlying59 (.int .u32 0) 4 xR rfl (by decide) (by omega) 0 (ok := fun _ => True) (okp := fun _ => True) rfl (fun _ hk => hk) trivial (oa) (Nat.le_trans (Nat.mul_le_mul_right _ (oa : (l0.length : Int).toNat ≤ 70368744177664)) (by omega)) (Below.refl _ _) (Nat.le_refl _) ?_; intro v190 w5 ho6 hb hg_ hnew_; clear hg_ hnew_; (first | rw [← Ny189.out] at ho6 | (simp only [Int.reduceToNat] at ho6; rw [← Ny189.out] at ho6)); have HO191 := aS (Kd.zL (Kd.z18 (M := fun k_ => (w.heap.size ≤ k_)) ho6 (zg (bl HB)) (fun k_ h_ => h_)) (zg (bl HB))); replace HB := hB_ HB hb; clear hb ho6))
 go_loopg [7, 8] k (fun kq v7 v8 w' => ∃ (x6_1 : List Int) (x7_1 : Int) (x8_1 : Int), v7 = .int .u64 x7_1 ∧ v8 = .int .i64 x8_1 ∧ Aside0 (xK.l0 kq l0 a1 x6_1 x7_1 x8_1 = some (r1, r2)) ∧ Aside0 (kq ≤ k) ∧ Aside0 (Kd.R (Kd.int .u32) 145 w' w.heap.size (fun k_ => (w.heap.size ≤ k_)) v190 x6_1) ∧ Aside0 (Below w.heap.size w w'))
 case atStart => exact ⟨(y189), (0), (wrap64 ((l0.length : Int) - 1)), rs, rs, H', ⟨Nat.le_refl _⟩, ⟨by exact rA (Kd.zw HO191.out (fun _ hk => hk.1))⟩, ⟨bl HB⟩⟩
 case round =>
  clear H'
  obtain ⟨x6_1, x7_1, x8_1, rfl, rfl, HA, HK1, HO_6, HB⟩ := hrel
  cases gk with
  | zero => exact absurd HA.out (by simp [xK.l0])
  | succ k1 =>
   have H := HA.out
   clear HA
   simp only [xK.l0] at H
   by_cases c7 : x8_1 ≥ 0; rotate_left
   ·rw [if_neg c7] at H
    have c7b0 := dF c7
    clear c7
    replace H := bA H
    obtain ⟨t194, A15, H⟩ := H
    simp only [Option.some.injEq, Prod.mk.injEq] at H
    obtain ⟨rfl, rfl⟩ := H
    obtain ⟨Ao16, co16, eo16⟩ := Kd.zB HO_6.out
    subst eo16
    go_wp2_with (first | ((with_reducible refine zi (f := 220) rfl ?_); refine gl 40 Tryz.func220 #[.slice Ao16 x6_1.length co16] ?_; (with_reducible refine (yA.calls k1 (fun k_ => some k_ = (.slice Ao16 x6_1.length co16 : Value).ownBlock) _ _ x6_1 t194 _ ?side1 A15.out).mono ?_); (case side1 => exact Kd.R_V (Kd.z0Q rfl (HO_6.out))); rintro e w17 ⟨v195, rfl, ho0, hb⟩; refine ⟨_, rfl, ?_⟩; have HO196 := aS (Kd.z8i (Kd.xi (ok' := fun k_ => (w.heap.size ≤ k_)) ho0 (fun k_ hk_ => Or.elim hk_ (fun hs_ => ((HO_6.out).1 k_ hs_.symm)) (fun hn_ => (Nat.le_trans (zg (bl HB)) hn_)))) (zg (bl HB))); replace HO_6 := aS (Kd.zU (by exact rA HO_6.out) hb); replace HB := hB_ HB hb; clear hb ho0))
    go_ret2
    exact ⟨_, re, by exact vA HO196.out, bl HB⟩
   rw [if_pos c7] at H
   have c7b0 := dT c7
   clear c7
   replace H := iD_ H
   obtain ⟨c8b0, H⟩ := H
   replace H := iD_ H
   obtain ⟨c9b0, H⟩ := H
   by_cases c10 : (IntKind.u64.wrap (a1)) = 0
   ·rw [if_pos c10] at H
    cases H
   rw [if_neg c10] at H
   have c10b0 := bF c10
   have c10b1 := nT c10
   replace H := iD_ H
   obtain ⟨c11b0, H⟩ := H
   obtain ⟨y193, Ny193⟩ := yE (x6_1.set (x8_1 : Int).toNat ((IntKind.u64.wrap (Int.tdiv (Go.bits .or .u64 (IntKind.u64.wrap (x7_1 * 4294967296)) (IntKind.u64.wrap (rd l0 x8_1))) (IntKind.u64.wrap (a1)))) % 4294967296) : List Int)
   rw [← Ny193.out] at H
   have H' := aS H
   clear H
   obtain ⟨ad192, e192, hx192_0⟩ := Kd.zT HR0.out x8_1 oa oa
   cases e192
   replace hx192_0 := xb HB hx192_0
   have p192 : (0 ≤ (x8_1 : Int)) = True := tO
   have q192 : (x8_1 < (l0.length : Int)) = True := tO
   have p12 : 0 ≤ (x8_1 : Int) := oa
   have q12 : (x8_1 : Int) < ((x6_1.length : Int) : Int) := oa
   obtain ⟨go12, co12, eo12, gb12, gl12, cl12, HG12⟩ := Kd.z0M HO_6.out (by omega)
   (first | cases eo12 | (injection eo12 with ea_ en_ ec_; (first | subst ea_ | (injection ea_ with ea_; subst ea_)); subst ec_; clear en_))
   have GB12 := aS gb12
   have GG12 := aS HG12
   clear gb12 gl12 HG12
   obtain ⟨hx12_0, hf12_0⟩ := Kd.yx 0 HO_6.out (x8_1 : Int) p12 q12
   replace p12 := eq_true p12
   replace q12 := eq_true q12
   have HP13 := Kd.z0q HO_6.out (x8_1 : Int) ((IntKind.u64.wrap (Int.tdiv (Go.bits .or .u64 (IntKind.u64.wrap (x7_1 * 4294967296)) (IntKind.u64.wrap (rd l0 x8_1))) (IntKind.u64.wrap (a1)))) % 4294967296)
   go_wp2_with (first | ((with_reducible refine xJ (t := 145) (p := 34) rfl ?_); refine xA (t := 145) (p := 34) (v := ?vo_w14) (w1 := (wr.setCell ⟨go12, (x8_1 : Int).toNat, none⟩ (.int .u32 ((IntKind.u64.wrap (Int.tdiv (Go.bits .or .u64 (IntKind.u64.wrap (x7_1 * 4294967296)) (IntKind.u64.wrap (rd l0 x8_1))) (IntKind.u64.wrap (a1)))) % 4294967296)))) ?hg ?ho ?hn ?hr ?_; (case ho => rfl); (case hg => rfl); (case hn => rfl); (case hr => first | (go_simp; done) | (go_simp; rfl)); intro w14 hw; have hg : wr.grownBy w14 (some go12) := (by rw [hw]; exact HP13.2); have hp_ : Kd.R (Kd.int .u32) 145 w14 w.heap.size (fun k_ => (w.heap.size ≤ k_)) (.slice (some ⟨go12, 0, none⟩) x6_1.length co12) y193 := (by rw [hw, Ny193.out]; exact HP13.1); clear HP13; replace HO_6 := aS (hp_); replace HB := aS ((by rw [hw]; exact zG (HB.out) GB12.out : Below w.heap.size w w14)); clear hg hw hp_))
   go_roundg k1
   case measure => have := HK1.out; omega
   case rel => exact ⟨(y193), (Int.tmod (Go.bits .or .u64 (IntKind.u64.wrap (x7_1 * 4294967296)) (IntKind.u64.wrap (rd l0 x8_1))) (IntKind.u64.wrap (a1))), (wrap64 (x8_1 - 1)), rs, rs, H', ⟨by have := HK1.out; omega⟩, ⟨by exact rA HO_6.out⟩, ⟨bl HB⟩⟩
def yl.l0 : Nat → List Int → List Int → Int → Option (Int)
 | 0, _, _, _ => none
 | k + 1, x0, x1, x5 => if x5 ≥ 0 then (if 0 ≤ x5 then (if x5 < (x0.length : Int) then (if x5 < (x1.length : Int) then (if (rd x0 x5) = (rd x1 x5) then (yl.l0 k x0 x1 (wrap64 (x5 - 1))) else (if (rd x0 x5) < (rd x1 x5) then (some (-1)) else (some 1))) else (none)) else (none)) else (none)) else (some 0)
def yl.f (k : Nat) (l0 : List Int) (l1 : List Int) : Option (Int) := if (l0.length : Int) < (l1.length : Int) then (some (-1)) else (if (l0.length : Int) > (l1.length : Int) then (some 1) else (yl.l0 k l0 l1 (wrap64 ((l0.length : Int) - 1))))
theorem yl.calls (k : Nat) (A0 : Option Addr) (c0 : Nat) (l0 : List Int) (A1 : Option Addr) (c1 : Nat) (l1 : List Int) (r : Int) (w : World) (hr0 : Kd.C (Kd.int .u32) w A0 l0.length l0) (hc0 : l0.length ≤ c0) (hr1 : Kd.C (Kd.int .u32) w A1 l1.length l1) (hc1 : l1.length ≤ c1) (h : yl.f k l0 l1 = some r) :
 Calls Tryz.prog 245 #[.slice A0 l0.length c0, .slice A1 l1.length c1] w fun e w' => e = .returned (.int .i64 r) ∧ zj w w' := by
 have HR0 := aS hr0
 have HC0 := aS hc0
 clear hr0 hc0
 have HR1 := aS hr1
 have HC1 := aS hc1
 clear hr1 hc1
 have H := h
 unfold yl.f at H
 clear h
 by_cases c3 : (l0.length : Int) < (l1.length : Int)
 ·rw [if_pos c3] at H
  have c3b0 := dT c3
  have c3b1 : decide (l0.length < l1.length) = true := dT (Int.ofNat_lt.mp c3)
  clear c3
  obtain rfl := sI H
  go_enter Tryz.func245, Tryz.ntmps245
  go_wp2
  repeat (go_quiet (fail); try go_wp2)
  go_ret
  exact ⟨by first | rfl | (simp; done) | (simp [*]; done), by repeat (first | exact zj.refl _ | apply zj.step)⟩
 rw [if_neg c3] at H
 have c3b0 := dF c3
 have c3b1 : decide (l0.length < l1.length) = false := dF (fun h => c3 (Int.ofNat_lt.mpr h))
 clear c3
 by_cases c4 : (l0.length : Int) > (l1.length : Int)
 ·rw [if_pos c4] at H
  have c4b0 := dT c4
  have c4b1 : decide (l1.length < l0.length) = true := dT (Int.ofNat_lt.mp c4)
  clear c4
  obtain rfl := sI H
  go_enter Tryz.func245, Tryz.ntmps245
  go_wp2
  repeat (go_quiet (fail); try go_wp2)
  go_ret
  exact ⟨by first | rfl | (simp; done) | (simp [*]; done), by repeat (first | exact zj.refl _ | apply zj.step)⟩
 rw [if_neg c4] at H
 have c4b0 := dF c4
 have c4b1 : decide (l1.length < l0.length) = false := dF (fun h => c4 (Int.ofNat_lt.mpr h))
 clear c4
 have H' := aS H
 clear H
 go_enter Tryz.func245, Tryz.ntmps245
 go_wp2
 repeat (go_quiet (fail); try go_wp2)
 go_loopg [5] k (fun kq v5 w' => ∃ (x5_1 : Int), v5 = .int .i64 x5_1 ∧ Aside0 (yl.l0 kq l0 l1 x5_1 = some r) ∧ Aside0 (kq ≤ k) ∧ zj w w')
 case atStart => exact ⟨(wrap64 ((l0.length : Int) - 1)), rs, H', ⟨Nat.le_refl _⟩, by repeat (first | exact zj.refl _ | apply zj.step)⟩
 case round =>
  clear H'
  obtain ⟨x5_1, rfl, HA, HK1, ⟨m1, rfl⟩⟩ := hrel
  cases gk with
  | zero => exact absurd HA.out (by simp [yl.l0])
  | succ k1 =>
   have H := HA.out
   clear HA
   simp only [yl.l0] at H
   by_cases c5 : x5_1 ≥ 0; rotate_left
   ·rw [if_neg c5] at H
    have c5b0 := dF c5
    clear c5
    obtain rfl := sI H
    go_wp2
    repeat (go_quiet (fail); try go_wp2)
    go_ret
    exact ⟨by first | rfl | (simp; done) | (simp [*]; done), by repeat (first | exact zj.refl _ | apply zj.step)⟩
   rw [if_pos c5] at H
   have c5b0 := dT c5
   clear c5
   replace H := iD_ H
   obtain ⟨c6b0, H⟩ := H
   replace H := iD_ H
   obtain ⟨c7b0, H⟩ := H
   replace H := iD_ H
   obtain ⟨c8b0, H⟩ := H
   by_cases c9 : (rd l0 x5_1) = (rd l1 x5_1)
   ·rw [if_pos c9] at H
    have c9b0 := bT c9
    have c9b1 := nF c9
    clear c9
    have H' := aS H
    clear H
    obtain ⟨ad197, e197, hx197_0⟩ := Kd.zT HR0.out x5_1 oa oa
    cases e197
    have p197 : (0 ≤ (x5_1 : Int)) = True := tO
    have q197 : (x5_1 < (l0.length : Int)) = True := tO
    obtain ⟨ad198, e198, hx198_0⟩ := Kd.zT HR1.out x5_1 oa oa
    cases e198
    have p198 : (0 ≤ (x5_1 : Int)) = True := tO
    have q198 : (x5_1 < (l1.length : Int)) = True := tO
    go_wp2
    repeat (go_quiet (fail); try go_wp2)
    go_roundg k1
    case measure => have := HK1.out; omega
    case rel => exact ⟨(wrap64 (x5_1 - 1)), rs, H', ⟨by have := HK1.out; omega⟩, by repeat (first | exact zj.refl _ | apply zj.step)⟩
   rw [if_neg c9] at H
   have c9b0 := bF c9
   have c9b1 := nT c9
   by_cases c10 : (rd l0 x5_1) < (rd l1 x5_1); rotate_left
   ·rw [if_neg c10] at H
    have c10b0 := dF c10
    clear c10
    obtain rfl := sI H
    obtain ⟨ad197, e197, hx197_0⟩ := Kd.zT HR0.out x5_1 oa oa
    cases e197
    have p197 : (0 ≤ (x5_1 : Int)) = True := tO
    have q197 : (x5_1 < (l0.length : Int)) = True := tO
    obtain ⟨ad198, e198, hx198_0⟩ := Kd.zT HR1.out x5_1 oa oa
    cases e198
    have p198 : (0 ≤ (x5_1 : Int)) = True := tO
    have q198 : (x5_1 < (l1.length : Int)) = True := tO
    obtain ⟨ad199, e199, hx199_0⟩ := Kd.zT HR0.out x5_1 oa oa
    obtain rfl : ad197 = ad199 := (by injection e199)
    have p199 : (0 ≤ (x5_1 : Int)) = True := tO
    have q199 : (x5_1 < (l0.length : Int)) = True := tO
    obtain ⟨ad200, e200, hx200_0⟩ := Kd.zT HR1.out x5_1 oa oa
    obtain rfl : ad198 = ad200 := (by injection e200)
    have p200 : (0 ≤ (x5_1 : Int)) = True := tO
    have q200 : (x5_1 < (l1.length : Int)) = True := tO
    go_wp2
    repeat (go_quiet (fail); try go_wp2)
    go_ret
    exact ⟨by first | rfl | (simp; done) | (simp [*]; done), by repeat (first | exact zj.refl _ | apply zj.step)⟩
   rw [if_pos c10] at H
   have c10b0 := dT c10
   clear c10
   obtain rfl := sI H
   obtain ⟨ad197, e197, hx197_0⟩ := Kd.zT HR0.out x5_1 oa oa
   cases e197
   have p197 : (0 ≤ (x5_1 : Int)) = True := tO
   have q197 : (x5_1 < (l0.length : Int)) = True := tO
   obtain ⟨ad198, e198, hx198_0⟩ := Kd.zT HR1.out x5_1 oa oa
   cases e198
   have p198 : (0 ≤ (x5_1 : Int)) = True := tO
   have q198 : (x5_1 < (l1.length : Int)) = True := tO
   obtain ⟨ad199, e199, hx199_0⟩ := Kd.zT HR0.out x5_1 oa oa
   obtain rfl : ad197 = ad199 := (by injection e199)
   have p199 : (0 ≤ (x5_1 : Int)) = True := tO
   have q199 : (x5_1 < (l0.length : Int)) = True := tO
   obtain ⟨ad200, e200, hx200_0⟩ := Kd.zT HR1.out x5_1 oa oa
   obtain rfl : ad198 = ad200 := (by injection e200)
   have p200 : (0 ≤ (x5_1 : Int)) = True := tO
   have q200 : (x5_1 < (l1.length : Int)) = True := tO
   go_wp2
   repeat (go_quiet (fail); try go_wp2)
   go_ret
   exact ⟨by first | rfl | (simp; done) | (simp [*]; done), by repeat (first | exact zj.refl _ | apply zj.step)⟩
def xn.f (a0 : Int) : Option (Int) := (xI.f a0).bind fun t201 => (some (wrap64 (32 - t201)))
theorem xn.calls (a0 : Int) (r : Int) (w : World) (h : xn.f a0 = some r) :
 Calls Tryz.prog 246 #[.int .u32 a0] w fun e w' => e = .returned (.int .i64 r) ∧ zj w w' := by
 have H := h
 unfold xn.f at H
 clear h
 replace H := bA H
 obtain ⟨t201, A2, H⟩ := H
 obtain rfl := sI H
 go_enter Tryz.func246, Tryz.ntmps246
 go_wp2_with (first | ((with_reducible refine zi (f := 244) rfl ?_); refine gl 4 Tryz.func244 #[.int .u32 a0] ?_; (with_reducible refine (xI.calls a0 t201 _ A2.out).mono ?_); rintro e w' ⟨rfl, ⟨nd, rfl⟩⟩; refine ⟨_, rfl, ?_⟩))
 go_ret
 exact ⟨by first | rfl | (simp; done) | (simp [*]; done), by repeat (first | exact zj.refl _ | apply zj.step)⟩
def xS.l0 : Nat → Int → List Int → List Int → Int → Int → Option (List Int)
 | 0, _, _, _, _, _ => none
 | k + 1, x1, x5, x13, x14, x15 => if x15 < x14 then (if 0 ≤ x15 then (if x15 < (x13.length : Int) then (if 0 ≤ x1 then (if x15 < (x5.length : Int) then (if 0 ≤ (wrap64 (x15 + 1)) then (if (wrap64 (x15 + 1)) < (x5.length : Int) then (xS.l0 k x1 ((x5.set (x15 : Int).toNat (Go.bits .or .u32 (rd x5 x15) ((shl .u64 (IntKind.u64.wrap (rd x13 x15)) x1) % 4294967296))).set ((wrap64 (x15 + 1)) : Int).toNat (((shl .u64 (IntKind.u64.wrap (rd x13 x15)) x1) / 4294967296) % 4294967296)) x13 x14 (wrap64 (x15 + 1))) else (none)) else (none)) else (none)) else (none)) else (none)) else (none)) else (some x5)
def xS.f (k : Nat) (l0 : List Int) (a1 : Int) : Option (List Int) := if 0 ≤ (wrap64 ((l0.length : Int) + 1)) then (if (wrap64 ((l0.length : Int) + 1) : Int).toNat ≤ 70368744177664 then (xS.l0 k a1 (List.replicate (wrap64 ((l0.length : Int) + 1) : Int).toNat 0) l0 (l0.length : Int) 0) else (none)) else (none)
theorem xS.calls (k : Nat) (A0 : Option Addr) (c0 : Nat) (l0 : List Int) (a1 : Int) (r : List Int) (w : World) (hr0 : Kd.C (Kd.int .u32) w A0 l0.length l0) (hc0 : l0.length ≤ c0) (h : xS.f k l0 a1 = some r) :
 Calls Tryz.prog 247 #[.slice A0 l0.length c0, .int .i64 a1] w fun e w' => ∃ v0_ : Value, e = .returned (v0_) ∧ Kd.R (Kd.int .u32) 145 w' w.heap.size (fun _ => True) v0_ r ∧ Below w.heap.size w w' := by
 have HR0 := aS hr0
 have HC0 := aS hc0
 clear hr0 hc0
 have HB := hR w
 have H := h
 unfold xS.f at H
 clear h
 obtain ⟨ji3, hji3⟩ : ∃ j_ : Int, (wrap64 ((l0.length : Int) + 1)) = j_ := ⟨_, rfl⟩
 simp only [hji3] at H
 have hji3w : (IntKind.i64.wrap ((l0.length : Int) + 1)) = ji3 := (yh _).trans hji3
 replace H := iE_ H
 obtain ⟨c4b0, c4b1, H⟩ := H
 replace H := iE_ H
 obtain ⟨c5b0, c5b1, H⟩ := H
 obtain ⟨y202, Ny202⟩ := yE (List.replicate (ji3 : Int).toNat 0 : List Int)
 rw [← Ny202.out] at H
 have H' := aS H
 clear H
 go_enter Tryz.func247, Tryz.ntmps247
 go_wp2_with (first | ((with_reducible refine zq (N := 12) rfl ?_); refine Kd.z1w (Kd.int .u32) _ 145 rfl (N := 12) rfl 59 _ _ rfl ji3 rfl rfl Tryz.underlying59 (.int .u32 0) 4 xR rfl (by decide) (by omega) 0 (ok := fun _ => True) (okp := fun _ => True) rfl (fun _ hk => hk) trivial (oa) (Nat.le_trans (Nat.mul_le_mul_right _ (oa : ji3.toNat ≤ 70368744177664)) (by omega)) (Below.refl _ _) (Nat.le_refl _) ?_; intro v203 w6 ho7 hb hg_ hnew_; clear hg_ hnew_; (first | rw [← Ny202.out] at ho7 | (simp only [Int.reduceToNat] at ho7; rw [← Ny202.out] at ho7)); have HO204 := aS (Kd.zL ho7 (zg (bl HB))); replace HB := hB_ HB hb; clear hb ho7))
 go_loopg [15] k (fun kq v15 w' => ∃ (x5_1 : List Int) (x15_1 : Int), v15 = .int .i64 x15_1 ∧ Aside0 (xS.l0 kq a1 x5_1 l0 (l0.length : Int) x15_1 = some r) ∧ Aside0 (kq ≤ k) ∧ Aside0 (Kd.R (Kd.int .u32) 145 w' w.heap.size (fun _ => True) v203 x5_1) ∧ Aside0 (Below w.heap.size w w'))
 case atStart => exact ⟨(y202), (0), rs, H', ⟨Nat.le_refl _⟩, ⟨by exact rA HO204.out⟩, ⟨bl HB⟩⟩
 case round =>
  clear H'
  obtain ⟨x5_1, x15_1, rfl, HA, HK1, HO_5, HB⟩ := hrel
  cases gk with
  | zero => exact absurd HA.out (by simp [xS.l0])
  | succ k1 =>
   have H := HA.out
   clear HA
   simp only [xS.l0] at H
   by_cases c8 : x15_1 < (l0.length : Int); rotate_left
   ·rw [if_neg c8] at H
    have c8b0 := dF c8
    clear c8
    obtain rfl := sI H
    go_wp2
    go_ret
    exact ⟨_, by first | rfl | (simp [yY, yZ] <;> rfl) | (simp only [← hji3]; first | rfl | (simp [yY, yZ] <;> rfl)) | (simp [*, yY, yZ] <;> rfl), by exact rA HO_5.out, bl HB⟩
   rw [if_pos c8] at H
   have c8b0 := dT c8
   clear c8
   replace H := iD_ H
   obtain ⟨c9b0, H⟩ := H
   replace H := iD_ H
   obtain ⟨c10b0, H⟩ := H
   replace H := iE_ H
   obtain ⟨c11b0, c11b1, H⟩ := H
   obtain ⟨ji12, hji12⟩ : ∃ j_ : Int, (shl .u64 (IntKind.u64.wrap (rd l0 x15_1)) a1) = j_ := ⟨_, rfl⟩
   simp only [hji12] at H
   have hji12_ : (IntKind.u64.wrap ((IntKind.u64.wrap (rd l0 x15_1)) * 2 ^ min a1.toNat 64)) = ji12 := hji12
   have hji12z : a1 ≤ 64 → (IntKind.u64.wrap ((IntKind.u64.wrap (rd l0 x15_1)) * 2 ^ a1.toNat)) = ji12 := z9u hji12
   replace H := iD_ H
   obtain ⟨c13b0, H⟩ := H
   obtain ⟨y207, Ny207⟩ := yE (x5_1.set (x15_1 : Int).toNat (Go.bits .or .u32 (rd x5_1 x15_1) ((ji12) % 4294967296)) : List Int)
   rw [← Ny207.out] at H
   obtain ⟨ji15, hji15⟩ : ∃ j_ : Int, (wrap64 (x15_1 + 1)) = j_ := ⟨_, rfl⟩
   simp only [hji15] at H
   have hji15w : (IntKind.i64.wrap (x15_1 + 1)) = ji15 := (yh _).trans hji15
   replace H := iD_ H
   obtain ⟨c16b0, H⟩ := H
   replace H := iD_ H
   obtain ⟨c17b0, H⟩ := H
   obtain ⟨y208, Ny208⟩ := yE (y207.set ((ji15) : Int).toNat (((ji12) / 4294967296) % 4294967296) : List Int)
   rw [← Ny208.out] at H
   have H' := aS H
   clear H
   obtain ⟨ad205, e205, hx205_0⟩ := Kd.zT HR0.out x15_1 oa oa
   cases e205
   replace hx205_0 := xb HB hx205_0
   have p205 : (0 ≤ (x15_1 : Int)) = True := tO
   have q205 : (x15_1 < (l0.length : Int)) = True := tO
   obtain ⟨Ao19, co19, eo19⟩ := Kd.zB HO_5.out
   subst eo19
   obtain ⟨ad206, e206, hx206_0⟩ := Kd.zT (Kd.zz HO_5.out).2.2 x15_1 oa oa
   cases e206
   have p206 : (0 ≤ (x15_1 : Int)) = True := tO
   have q206 : (x15_1 < (x5_1.length : Int)) = True := tO
   have p14 : 0 ≤ (x15_1 : Int) := oa
   have q14 : (x15_1 : Int) < ((x5_1.length : Int) : Int) := oa
   obtain ⟨go14, co14, eo14, gb14, gl14, cl14, HG14⟩ := Kd.z0M HO_5.out (by omega)
   (first | cases eo14 | (injection eo14 with ea_ en_ ec_; (first | subst ea_ | (injection ea_ with ea_; subst ea_)); subst ec_; clear en_))
   have GB14 := aS gb14
   have GG14 := aS HG14
   clear gb14 gl14 HG14
   (first | simp only [add_plain] at hx206_0 | skip)
   obtain ⟨hx14_0, hf14_0⟩ := Kd.yx 0 HO_5.out (x15_1 : Int) p14 q14
   replace p14 := eq_true p14
   replace q14 := eq_true q14
   have HP20 := Kd.z0q HO_5.out (x15_1 : Int) (Go.bits .or .u32 (rd x5_1 x15_1) ((ji12) % 4294967296))
   go_wp2_with (first | ((with_reducible refine xJ (t := 145) (p := 31) rfl ?_); refine xA (t := 145) (p := 31) (v := ?vo_w21) (w1 := (wr.setCell ⟨go14, (x15_1 : Int).toNat, none⟩ (.int .u32 (Go.bits .or .u32 (rd x5_1 x15_1) ((ji12) % 4294967296))))) ?hg ?ho ?hn ?hr ?_; (case ho => rfl); (case hg => rfl); (case hn => rfl); (case hr => first | (go_simp; done) | (go_simp; rfl)); intro w21 hw; have hg : wr.grownBy w21 (some go14) := (by rw [hw]; exact HP20.2); have hp_ : Kd.R (Kd.int .u32) 145 w21 w.heap.size (fun _ => True) (.slice (some ⟨go14, 0, none⟩) x5_1.length co19) y207 := (by rw [hw, Ny207.out]; exact HP20.1); clear HP20; replace HO_5 := aS (hp_); replace HB := aS ((by rw [hw]; exact zG (HB.out) GB14.out : Below w.heap.size w w21)); clear hg hw hp_; have p18 : 0 ≤ ((ji15) : Int) := oa; have q18 : ((ji15) : Int) < ((x5_1.length : Int) : Int) := oa; obtain ⟨hx18_0, hf18_0⟩ := Kd.yx 0 HO_5.out ((ji15) : Int) p18 q18; replace p18 := eq_true p18; replace q18 := eq_true q18; obtain ⟨hy22_, hz22_⟩ := Kd.yx 0 HO_5.out ((ji15) : Int) (oa) (oa); have HP22 := Kd.z0q HO_5.out ((ji15) : Int) (((ji12) / 4294967296) % 4294967296)) | ((with_reducible refine xJ (t := 145) (p := 38) rfl ?_); refine xA (t := 145) (p := 38) (v := ?vo_w23) (w1 := (w21.setCell ⟨go14, ((ji15) : Int).toNat, none⟩ (.int .u32 (((ji12) / 4294967296) % 4294967296)))) ?hg ?ho ?hn ?hr ?_; (case ho => rfl); (case hg => rfl); (case hn => rfl); (case hr => first | (go_simp; done) | (go_simp; rfl)); intro w23 hw; have hg : w21.grownBy w23 (some go14) := (by rw [hw]; exact HP22.2); have hp_ : Kd.R (Kd.int .u32) 145 w23 w.heap.size (fun _ => True) (.slice (some ⟨go14, 0, none⟩) x5_1.length co19) y208 := (by rw [hw, Ny208.out]; exact HP22.1); clear HP22; replace HO_5 := aS (hp_); replace HB := aS ((by rw [hw]; exact zG (HB.out) GB14.out : Below w.heap.size w w23)); clear hg hw hp_))
   go_roundg k1
   case measure => have := HK1.out; omega
   case rel => exact ⟨(y208), (ji15), (by first | rfl | (simp; done) | (simp only [← hji15] <;> (first | rfl | simp)) | (simp [*]; done)), H', ⟨by have := HK1.out; omega⟩, ⟨by exact rA HO_5.out⟩, ⟨bl HB⟩⟩
def z3l.f (l0 : List Int) (a1 : Int) : Option (Int) := if a1 < (l0.length : Int) then (if 0 ≤ a1 then (some (IntKind.u64.wrap (rd l0 a1))) else (none)) else (some 0)
theorem z3l.calls (A0 : Option Addr) (c0 : Nat) (l0 : List Int) (a1 : Int) (r : Int) (w : World) (hr0 : Kd.C (Kd.int .u32) w A0 l0.length l0) (hc0 : l0.length ≤ c0) (h : z3l.f l0 a1 = some r) :
 Calls Tryz.prog 253 #[.slice A0 l0.length c0, .int .i64 a1] w fun e w' => e = .returned (.int .u64 r) ∧ zj w w' := by
 have HR0 := aS hr0
 have HC0 := aS hc0
 clear hr0 hc0
 have H := h
 unfold z3l.f at H
 clear h
 by_cases c3 : a1 < (l0.length : Int); rotate_left
 ·rw [if_neg c3] at H
  have c3b0 := dF c3
  clear c3
  obtain rfl := sI H
  go_enter Tryz.func253, Tryz.ntmps253
  go_wp2
  go_ret
  exact ⟨by first | rfl | (simp; done) | (simp [*]; done), by repeat (first | exact zj.refl _ | apply zj.step)⟩
 rw [if_pos c3] at H
 have c3b0 := dT c3
 clear c3
 replace H := iD_ H
 obtain ⟨c4b0, H⟩ := H
 obtain rfl := sI H
 obtain ⟨ad209, e209, hx209_0⟩ := Kd.zT HR0.out a1 oa oa
 cases e209
 have p209 : (0 ≤ (a1 : Int)) = True := tO
 have q209 : (a1 < (l0.length : Int)) = True := tO
 go_enter Tryz.func253, Tryz.ntmps253
 go_wp2
 go_ret
 exact ⟨by first | rfl | (simp; done) | (simp [*]; done), by repeat (first | exact zj.refl _ | apply zj.step)⟩
def ya.l0 : Nat → Int → List Int → List Int → Int → Int → Option (List Int)
 | 0, _, _, _, _, _ => none
 | k + 1, x1, x5, x11, x12, x13 => if x13 < x12 then (if 0 ≤ x13 then (if x13 < (x11.length : Int) then (if x13 < (x5.length : Int) then (if 0 ≤ x1 then ((some (x5.set (x13 : Int).toNat (Go.bits .or .u32 (rd x5 x13) (shr .u32 (rd x11 x13) x1)) : List Int)).bind fun y221 => (if x13 > 0 then (if 0 ≤ (wrap64 (x13 - 1)) then (if (wrap64 (x13 - 1)) < (x5.length : Int) then (ya.l0 k x1 (y221.set ((wrap64 (x13 - 1)) : Int).toNat (Go.bits .or .u32 (rd y221 (wrap64 (x13 - 1))) ((shr .u64 (IntKind.u64.wrap ((IntKind.u64.wrap (rd x11 x13)) * 4294967296)) x1) % 4294967296))) x11 x12 (wrap64 (x13 + 1))) else (none)) else (none)) else (ya.l0 k x1 y221 x11 x12 (wrap64 (x13 + 1))))) else (none)) else (none)) else (none)) else (none)) else ((yA.f k x5).bind fun t224 => (some t224))
def ya.f (k : Nat) (l0 : List Int) (a1 : Int) : Option (List Int) := if 0 ≤ (l0.length : Int) then (if ((l0.length : Int) : Int).toNat ≤ 70368744177664 then (ya.l0 k a1 (List.replicate ((l0.length : Int) : Int).toNat 0) l0 (l0.length : Int) 0) else (none)) else (none)
def ya.T5 : Bool × List (List Nat × List Nat) := (true, [([], []), ([], []), ([0, 1], [0, 1]), ([2], [2]), ([], []), ([], []), ([4, 5], [4, 5]), ([3, 6], [3, 6]), ([0, 1, 0, 1, 2, 3, 4, 5, 6, 7], [0, 1]), ([8, 7, 0, 1, 2, 3, 4, 5, 6, 7], [7, 8])])
def ya.B5 : List Nat := [0, 0, 3, 7, 0, 0, 48, 127, 255, 511]
theorem ya.zdY : z06 .any (opsOf Tryz.f250 5) = ya.T5 := by kernel_rfl
theorem ya.zcd : z0f ya.T5.2 ya.B5 = true := by kernel_rfl
def ya.T7 : Bool × List (List Nat × List Nat) := (true, [([], []), ([], []), ([1], [1]), ([0, 2], [0, 2]), ([3], [3]), ([], []), ([5], [5]), ([6], [6]), ([], []), ([7, 8], [7, 8]), ([9], [9]), ([4, 10], [4, 10]), ([0, 2, 0, 1, 2, 3, 4, 5, 6, 7, 8, 9, 10, 11], [0, 2]), ([12, 11, 0, 1, 2, 3, 4, 5, 6, 7, 8, 9, 10, 11], [11, 12])])
def ya.B7 : List Nat := [0, 0, 2, 7, 15, 0, 32, 96, 0, 480, 992, 2047, 4095, 8191]
theorem ya.zeo : z06 .any (opsOf Tryz.f250 7) = ya.T7 := by kernel_rfl
theorem ya.zdw : z0f ya.T7.2 ya.B7 = true := by kernel_rfl
theorem ya.calls (k : Nat) (A0 : Option Addr) (c0 : Nat) (l0 : List Int) (a1 : Int) (r : List Int) (w : World) (hr0 : Kd.C (Kd.int .u32) w A0 l0.length l0) (hc0 : l0.length ≤ c0) (h : ya.f k l0 a1 = some r) :
 Calls Tryz.prog 250 #[.slice A0 l0.length c0, .int .i64 a1] w fun e w' => ∃ v0_ : Value, e = .returned (v0_) ∧ Kd.V (Kd.int .u32) 145 w' w.heap.size (fun k_ => (w.heap.size ≤ k_)) v0_ r ∧ Below w.heap.size w w' := by
 have HR0 := aS hr0
 have HC0 := aS hc0
 clear hr0 hc0
 have HB := hR w
 have H := h
 unfold ya.f at H
 clear h
 replace H := iE_ H
 obtain ⟨c3b0, c3b1, H⟩ := H
 replace H := iE_ H
 obtain ⟨c4b0, c4b1, H⟩ := H
 obtain ⟨y216, Ny216⟩ := yE (List.replicate ((l0.length : Int) : Int).toNat 0 : List Int)
 rw [← Ny216.out] at H
 have H' := aS H
 clear H
 go_enter Tryz.func250, Tryz.ntmps250
 go_wp2_with (first | ((with_reducible refine zq (N := 10) rfl ?_); refine Kd.z1w (Kd.int .u32) _ 145 rfl (N := 10) rfl 59 _ _ rfl (l0.length : Int) rfl rfl Tryz.underlying59 (.int .u32 0) 4 xR rfl (by decide) (by omega) 0 (ok := fun _ => True) (okp := fun _ => True) rfl (fun _ hk => hk) trivial (oa) (Nat.le_trans (Nat.mul_le_mul_right _ (oa : (l0.length : Int).toNat ≤ 70368744177664)) (by omega)) (Below.refl _ _) (Nat.le_refl _) ?_; intro v217 w5 ho6 hb hg_ hnew_; clear hg_ hnew_; (first | rw [← Ny216.out] at ho6 | (simp only [Int.reduceToNat] at ho6; rw [← Ny216.out] at ho6)); have HO218 := aS (Kd.zL (Kd.z18 (M := fun k_ => (w.heap.size ≤ k_)) ho6 (zg (bl HB)) (fun k_ h_ => h_)) (zg (bl HB))); replace HB := hB_ HB hb; clear hb ho6))
 go_loopg [13] k (fun kq v13 w' => ∃ (x5_1 : List Int) (x13_1 : Int), v13 = .int .i64 x13_1 ∧ Aside0 (ya.l0 kq a1 x5_1 l0 (l0.length : Int) x13_1 = some r) ∧ Aside0 (kq ≤ k) ∧ Aside0 (Kd.R (Kd.int .u32) 145 w' w.heap.size (fun k_ => (w.heap.size ≤ k_)) v217 x5_1) ∧ Aside0 (Below w.heap.size w w'))
 case atStart => exact ⟨(y216), (0), rs, H', ⟨Nat.le_refl _⟩, ⟨by exact rA (Kd.zw HO218.out (fun _ hk => hk.1))⟩, ⟨bl HB⟩⟩
 case round =>
  clear H'
  obtain ⟨x5_1, x13_1, rfl, HA, HK1, HO_5, HB⟩ := hrel
  cases gk with
  | zero => exact absurd HA.out (by simp [ya.l0])
  | succ k1 =>
   have H := HA.out
   clear HA
   simp only [ya.l0] at H
   by_cases c7 : x13_1 < (l0.length : Int); rotate_left
   ·rw [if_neg c7] at H
    have c7b0 := dF c7
    clear c7
    replace H := bA H
    obtain ⟨t224, A30, H⟩ := H
    obtain rfl := sI H
    obtain ⟨Ao31, co31, eo31⟩ := Kd.zB HO_5.out
    subst eo31
    go_wp2_with (first | ((with_reducible refine zi (f := 220) rfl ?_); refine gl 44 Tryz.func220 #[.slice Ao31 x5_1.length co31] ?_; (with_reducible refine (yA.calls k1 (fun k_ => some k_ = (.slice Ao31 x5_1.length co31 : Value).ownBlock) _ _ x5_1 t224 _ ?side1 A30.out).mono ?_); (case side1 => exact Kd.R_V (Kd.z0Q rfl (HO_5.out))); rintro e w32 ⟨v225, rfl, ho0, hb⟩; refine ⟨_, rfl, ?_⟩; have HO226 := aS (Kd.z8i (Kd.xi (ok' := fun k_ => (w.heap.size ≤ k_)) ho0 (fun k_ hk_ => Or.elim hk_ (fun hs_ => ((HO_5.out).1 k_ hs_.symm)) (fun hn_ => (Nat.le_trans (zg (bl HB)) hn_)))) (zg (bl HB))); replace HO_5 := aS (Kd.zU (by exact rA HO_5.out) hb); replace HB := hB_ HB hb; clear hb ho0))
    go_ret
    exact ⟨_, re, by exact vA HO226.out, bl HB⟩
   rw [if_pos c7] at H
   have c7b0 := dT c7
   clear c7
   replace H := iD_ H
   obtain ⟨c8b0, H⟩ := H
   replace H := iD_ H
   obtain ⟨c9b0, H⟩ := H
   replace H := iD_ H
   obtain ⟨c10b0, H⟩ := H
   replace H := iE_ H
   obtain ⟨c11b0, c11b1, H⟩ := H
   obtain ⟨ji12, hji12⟩ : ∃ j_ : Int, (shr .u32 (rd l0 x13_1) a1) = j_ := ⟨_, rfl⟩
   simp only [hji12] at H
   have hji12_ : ((rd l0 x13_1) / 2 ^ min a1.toNat 32) = ji12 := hji12
   have hji12z : a1 ≤ 32 → ((rd l0 x13_1) / 2 ^ a1.toNat) = ji12 := z5U hji12
   replace H := yB H
   obtain ⟨y221, Ny221, H⟩ := H
   by_cases c14 : x13_1 > 0; rotate_left
   ·rw [if_neg c14] at H
    have c14b0 := dF c14
    clear c14
    have H' := aS H
    clear H
    obtain ⟨ad219, e219, hx219_0⟩ := Kd.zT HR0.out x13_1 oa oa
    cases e219
    replace hx219_0 := xb HB hx219_0
    have p219 : (0 ≤ (x13_1 : Int)) = True := tO
    have q219 : (x13_1 < (l0.length : Int)) = True := tO
    try go_wp2
    replace HO_5 := aS (Kd.xu HO_5.out)
    replace HB := aS (zD HB.out)
    obtain ⟨Ao28, co28, eo28⟩ := Kd.zB HO_5.out
    (first | subst eo28 | (injection eo28 with f1_ f2_ f3_; have f4_ := f1_.symm; have f5_ := f3_.symm; clear f1_ f2_ f3_; subst f4_; subst f5_))
    obtain ⟨ad220, e220, hx220_0⟩ := Kd.zT (Kd.zz HO_5.out).2.2 x13_1 oa oa
    cases e220
    have p220 : (0 ≤ (x13_1 : Int)) = True := tO
    have q220 : (x13_1 < (x5_1.length : Int)) = True := tO
    have p13 : 0 ≤ (x13_1 : Int) := oa
    have q13 : (x13_1 : Int) < ((x5_1.length : Int) : Int) := oa
    obtain ⟨go13, co13, eo13, gb13, gl13, cl13, HG13⟩ := Kd.z0M HO_5.out (by omega)
    (first | cases eo13 | (injection eo13 with ea_ en_ ec_; (first | subst ea_ | (injection ea_ with ea_; subst ea_)); subst ec_; clear en_))
    have GB13 := aS gb13
    have GG13 := aS HG13
    clear gb13 gl13 HG13
    (first | simp only [add_plain] at hx220_0 | skip)
    obtain ⟨hx13_0, hf13_0⟩ := Kd.yx 0 HO_5.out (x13_1 : Int) p13 q13
    replace p13 := eq_true p13
    replace q13 := eq_true q13
    have HP29 := Kd.z7n HO_5.out (x13_1 : Int) (Go.bits .or .u32 (rd x5_1 x13_1) (ji12))
    rw [← Ny221.out] at HP29
    have HQ29 := aS HP29
    clear HP29
    refine z16 (n := 10) (S := fun w' => w'.cell? ⟨go13, (x13_1).toNat, none⟩ = some (.int .u32 (rd x5_1 x13_1))) (ds := [9]) (mk 10 0) (by kernel_rfl) rfl (by kernel_rfl) (hx220_0) (fun hHeld => ?_); refine z0K ya.zdY ya.zcd (fun HT_ HW_ => ?_)
    generalize wr.drew = w27 at HO_5 HB GG13 HQ29 hf13_0 hx13_0 hx220_0 hHeld ⊢
    refine pv 0 18 (mk 10 1) ?_
    refine pv 1 19 (mk 10 3) ?_
    refine pv 2 20 (mk 10 7) ?_
    refine pv 4 22 (mk 10 23) ?_
    refine pv 5 23 (mk 10 55) ?_
    refine pv 6 24 (mk 10 119) ?_
    refine tv 3 21 (mk 10 127) hHeld ?_
    refine pv 7 25 (mk 10 255) ?_
    refine pv 8 26 (mk 10 511) ?_
    refine z6T (i := 9) (N := none) (mk 10 1023) rfl rfl (z0k HT_.out (by kernel_rfl)) (by decide) (fun K hK => ?_)
    refine z1Z (w1 := ?_) (by rfl) rfl ?_ ?_
    rotate_left
    ·go_simp
     rfl
    refine hK.out _ _ ?_
    clear hK K
    refine z1U (z1L HT_.out (by kernel_rfl)) ?_
    try go_wp2
    go_roundg k1
    case measure => have := HK1.out; omega
    case rel => exact ⟨(y221), (wrap64 (x13_1 + 1)), rs, H', ⟨by have := HK1.out; omega⟩, ⟨by exact rA HQ29.out⟩, ⟨bl HB⟩⟩
   rw [if_pos c14] at H
   have c14b0 := dT c14
   clear c14
   obtain ⟨ji15, hji15⟩ : ∃ j_ : Int, (wrap64 (x13_1 - 1)) = j_ := ⟨_, rfl⟩
   simp only [hji15] at H
   have hji15w : (IntKind.i64.wrap (x13_1 - 1)) = ji15 := (yh _).trans hji15
   replace H := iD_ H
   obtain ⟨c16b0, H⟩ := H
   replace H := iD_ H
   obtain ⟨c17b0, H⟩ := H
   have c18b0 := eq_true (oa : 0 ≤ a1)
   obtain ⟨ji19, hji19⟩ : ∃ j_ : Int, (shr .u64 (IntKind.u64.wrap ((IntKind.u64.wrap (rd l0 x13_1)) * 4294967296)) a1) = j_ := ⟨_, rfl⟩
   simp only [hji19] at H
   have hji19_ : ((IntKind.u64.wrap ((IntKind.u64.wrap (rd l0 x13_1)) * 4294967296)) / 2 ^ min a1.toNat 64) = ji19 := hji19
   have hji19z : a1 ≤ 64 → ((IntKind.u64.wrap ((IntKind.u64.wrap (rd l0 x13_1)) * 4294967296)) / 2 ^ a1.toNat) = ji19 := z5U hji19
   obtain ⟨y223, Ny223⟩ := yE (y221.set ((ji15) : Int).toNat (Go.bits .or .u32 (rd y221 (ji15)) ((ji19) % 4294967296)) : List Int)
   rw [← Ny223.out] at H
   have H' := aS H
   clear H
   obtain ⟨ad219, e219, hx219_0⟩ := Kd.zT HR0.out x13_1 oa oa
   cases e219
   replace hx219_0 := xb HB hx219_0
   have p219 : (0 ≤ (x13_1 : Int)) = True := tO
   have q219 : (x13_1 < (l0.length : Int)) = True := tO
   try go_wp2
   replace HO_5 := aS (Kd.xu HO_5.out)
   replace HB := aS (zD HB.out)
   obtain ⟨Ao22, co22, eo22⟩ := Kd.zB HO_5.out
   (first | subst eo22 | (injection eo22 with f1_ f2_ f3_; have f4_ := f1_.symm; have f5_ := f3_.symm; clear f1_ f2_ f3_; subst f4_; subst f5_))
   obtain ⟨ad220, e220, hx220_0⟩ := Kd.zT (Kd.zz HO_5.out).2.2 x13_1 oa oa
   cases e220
   have p220 : (0 ≤ (x13_1 : Int)) = True := tO
   have q220 : (x13_1 < (x5_1.length : Int)) = True := tO
   have p13 : 0 ≤ (x13_1 : Int) := oa
   have q13 : (x13_1 : Int) < ((x5_1.length : Int) : Int) := oa
   obtain ⟨go13, co13, eo13, gb13, gl13, cl13, HG13⟩ := Kd.z0M HO_5.out (by omega)
   (first | cases eo13 | (injection eo13 with ea_ en_ ec_; (first | subst ea_ | (injection ea_ with ea_; subst ea_)); subst ec_; clear en_))
   have GB13 := aS gb13
   have GG13 := aS HG13
   clear gb13 gl13 HG13
   (first | simp only [add_plain] at hx220_0 | skip)
   obtain ⟨hx13_0, hf13_0⟩ := Kd.yx 0 HO_5.out (x13_1 : Int) p13 q13
   replace p13 := eq_true p13
   replace q13 := eq_true q13
   have HP23 := Kd.z7n HO_5.out (x13_1 : Int) (Go.bits .or .u32 (rd x5_1 x13_1) (ji12))
   rw [← Ny221.out] at HP23
   have HQ23 := aS HP23
   clear HP23
   refine z16 (n := 10) (S := fun w' => w'.cell? ⟨go13, (x13_1).toNat, none⟩ = some (.int .u32 (rd x5_1 x13_1))) (ds := [9]) (mk 10 0) (by kernel_rfl) rfl (by kernel_rfl) (hx220_0) (fun hHeld => ?_); refine z0K ya.zdY ya.zcd (fun HT_ HW_ => ?_)
   generalize wr.drew = w21 at HO_5 HB GG13 HQ23 hf13_0 hx13_0 hx220_0 hHeld ⊢
   refine pv 0 18 (mk 10 1) ?_
   refine pv 1 19 (mk 10 3) ?_
   refine pv 2 20 (mk 10 7) ?_
   refine pv 4 22 (mk 10 23) ?_
   refine pv 5 23 (mk 10 55) ?_
   refine pv 6 24 (mk 10 119) ?_
   refine tv 3 21 (mk 10 127) hHeld ?_
   refine pv 7 25 (mk 10 255) ?_
   refine pv 8 26 (mk 10 511) ?_
   refine z6T (i := 9) (N := none) (mk 10 1023) rfl rfl (z0k HT_.out (by kernel_rfl)) (by decide) (fun K hK => ?_)
   refine z1Z (w1 := ?_) (by rfl) rfl ?_ ?_
   rotate_left
   ·go_simp
    rfl
   refine hK.out _ _ ?_
   clear hK K
   refine z1U (z1L HT_.out (by kernel_rfl)) ?_
   try go_wp2
   have n0_ : Aside0 (Kd.R (Kd.int .u32) 145 (w21.setCell ⟨go13, (x13_1 : Int).toNat, none⟩ (.int .u32 (Go.bits .or .u32 (rd x5_1 x13_1) (ji12)))) w.heap.size (fun k_ => (w.heap.size ≤ k_)) (.slice (some ⟨go13, 0, none⟩) x5_1.length co22) y221) := ⟨by exact rA HQ23.out⟩
   have n1_ : Aside0 (Below w.heap.size w (w21.setCell ⟨go13, (x13_1 : Int).toNat, none⟩ (.int .u32 (Go.bits .or .u32 (rd x5_1 x13_1) (ji12))))) := ⟨bl HB⟩
   generalize (w21.setCell ⟨go13, (x13_1 : Int).toNat, none⟩ (.int .u32 (Go.bits .or .u32 (rd x5_1 x13_1) (ji12)))) = w24 at n0_ n1_ ⊢
   have HO_5 := n0_
   have HB := n1_
   clear n0_ n1_
   replace HO_5 := aS (Kd.xu HO_5.out)
   replace HB := aS (zD HB.out)
   have p222 : 0 ≤ ((ji15) : Int) := oa
   have q222 : (ji15) < (y221.length : Int) := (by have h_ : ((ji15) : Int) < ((x5_1.length : Int) : Int) := oa; first | (have e_ := (Kd.zz HO_5.out).1; omega) | simpa only [Ny221.out, List.length_set] using h_)
   have ql222 : (((ji15) : Int) < ((x5_1.length : Int) : Int)) = True := eq_true (oa)
   obtain ⟨ad222, e222, hx222_0⟩ := Kd.zT (Kd.zz HO_5.out).2.2 (ji15) p222 q222
   obtain rfl : (⟨go13, 0, none⟩ : Addr) = ad222 := (by injection e222)
   (first | simp only [add_plain] at hx222_0 | simp only [z2a] at hx222_0 | simp only [Addr.add, Nat.zero_add] at hx222_0 | skip)
   replace p222 := eq_true p222
   replace q222 := eq_true q222
   obtain ⟨hx20_0, hf20_0⟩ := Kd.yx 0 HO_5.out ((ji15) : Int) oa oa
   have p20 : (0 ≤ ((ji15) : Int)) = True := tO
   have q20 : (((ji15) : Int) < ((x5_1.length : Int) : Int)) = True := tO
   have HP26 := Kd.z7n HO_5.out ((ji15) : Int) (Go.bits .or .u32 (rd y221 (ji15)) ((ji19) % 4294967296))
   rw [← Ny223.out] at HP26
   have HQ26 := aS HP26
   clear HP26
   refine z16 (n := 14) (S := fun w' => w'.cell? ⟨go13, ((ji15)).toNat, none⟩ = some (.int .u32 (rd y221 (ji15)))) (ds := [13]) (mk 14 0) (by kernel_rfl) rfl (by kernel_rfl) (hx222_0) (fun hHeld => ?_); refine z0K ya.zeo ya.zdw (fun HT_ HW_ => ?_)
   generalize w24.drew = w25 at HO_5 HB HQ23 HQ26 hf20_0 hx20_0 hx222_0 hHeld ⊢
   refine pv 0 29 (mk 14 1) ?_
   refine pv 1 30 (mk 14 3) ?_
   refine pv 2 31 (mk 14 7) ?_
   refine pv 3 32 (mk 14 15) ?_
   refine pv 5 34 (mk 14 47) ?_
   refine pv 6 35 (mk 14 111) ?_
   refine pv 7 36 (mk 14 239) ?_
   refine pv 8 37 (mk 14 495) ?_
   refine pv 9 38 (mk 14 1007) ?_
   refine pv 10 39 (mk 14 2031) ?_
   refine tv 4 33 (mk 14 2047) hHeld ?_
   refine pv 11 40 (mk 14 4095) ?_
   refine pv 12 41 (mk 14 8191) ?_
   refine z6T (i := 13) (N := none) (mk 14 16383) rfl rfl (z0k HT_.out (by kernel_rfl)) (by decide) (fun K hK => ?_)
   refine z1Z (w1 := ?_) (by rfl) rfl ?_ ?_
   rotate_left
   ·go_simp
    rfl
   refine hK.out _ _ ?_
   clear hK K
   refine z1U (z1L HT_.out (by kernel_rfl)) ?_
   try go_wp2
   go_roundg k1
   case measure => have := HK1.out; omega
   case rel => exact ⟨(y223), (wrap64 (x13_1 + 1)), rs, H', ⟨by have := HK1.out; omega⟩, ⟨by exact rA HQ26.out⟩, ⟨bl HB⟩⟩
end
end
def dv : List Int → Int
 | [] => 0
 | d :: l => d + 4294967296 * dv l
def pB : Nat → Int
 | 0 => 1
 | n + 1 => 4294967296 * pB n
def dOk (l : List Int) : Prop := ∀ d ∈ l, 0 ≤ d ∧ d < 4294967296
theorem z0N : ∀ n, 0 < pB n
 | 0 => by decide
 | n + 1 => by have := z0N n; simp only [pB]; omega
theorem zaM (m : Nat) : ∀ n, pB (m + n) = pB m * pB n
 | 0 => by simp [pB]
 | n + 1 => by
  have := zaM m n
  show 4294967296 * pB (m + n) = pB m * (4294967296 * pB n)
  rw [this]; grind
theorem yp {d : Int} {l : List Int} : dOk (d :: l) ↔ (0 ≤ d ∧ d < 4294967296) ∧ dOk l := by
 unfold dOk; simp
theorem z0U {l m : List Int} : dOk (l ++ m) ↔ dOk l ∧ dOk m := by
 unfold dOk; simp only [List.mem_append]
 exact ⟨fun h => ⟨fun d hd => h d (.inl hd), fun d hd => h d (.inr hd)⟩, fun h d hd => hd.elim (h.1 d) (h.2 d)⟩
theorem yc : ∀ l, dOk l → 0 ≤ dv l ∧ dv l < pB l.length
 | [], _ => by decide
 | d :: l, h => by
  obtain ⟨h1, h2⟩ := yp.1 h
  have := yc l h2
  simp only [dv, List.length_cons, pB]
  omega
theorem z2P (l m : List Int) : dv (l ++ m) = dv l + pB l.length * dv m := by
 induction l with
 | nil => simp [dv, pB]
 | cons d l ih =>
  simp only [List.cons_append, dv, List.length_cons, pB, ih]
  grind
theorem z6P {e v1 v2 v' two u3 w' V W q : Int} (he : 0 < e) (hv1 : 0 ≤ v1 ∧ 0 < v1) (hv2 : 0 ≤ v2) (hv' : 0 ≤ v')
 (hu3 : u3 < 4294967296) (hw' : w' < e) (hV : V = (v1 * 4294967296 + v2) * e + v') (hW : W = (two * 4294967296 + u3) * e + w')
 (hq : two + 1 ≤ (q + 1) * v1) (hq0 : 0 ≤ q) : W < (q + 1) * V := by
 have h1 : (two + 1) * (4294967296 * e) ≤ ((q + 1) * v1) * (4294967296 * e) := Int.mul_le_mul_of_nonneg_right hq (by omega)
 have h2 : 0 ≤ (q + 1) * (v2 * e + v') := Int.mul_nonneg (by omega) (by have := Int.mul_nonneg hv2 (Int.le_of_lt he); omega)
 have h3 : (u3 + 1) * e ≤ 4294967296 * e := Int.mul_le_mul_of_nonneg_right (by omega) (by omega)
 have e1 : (q + 1) * V = ((q + 1) * v1) * (4294967296 * e) + (q + 1) * (v2 * e + v') := by rw [hV]; grind
 have e2 : (two + 1) * (4294967296 * e) = two * 4294967296 * e + 4294967296 * e := by grind
 have e3 : (two * 4294967296 + u3) * e = two * 4294967296 * e + u3 * e := by grind
 have e4 : (u3 + 1) * e = u3 * e + e := by grind
 rw [hW, e1, e3]
 omega
theorem z7C {e v1 v2 v' two u3 w' V W q r : Int} (he : 0 < e) (hv' : 0 ≤ v') (hw' : w' < e)
 (hV : V = (v1 * 4294967296 + v2) * e + v') (hW : W = (two * 4294967296 + u3) * e + w') (hqr : q * v1 + r = two) (hq0 : 0 ≤ q)
 (hbad : r * 4294967296 + u3 < q * v2) : W < q * V := by
 have h1 : (r * 4294967296 + u3 + 1) * e ≤ (q * v2) * e := Int.mul_le_mul_of_nonneg_right (by omega) (by omega)
 have h2 : 0 ≤ q * v' := Int.mul_nonneg hq0 hv'
 have e1 : q * V = ((q * v1) * 4294967296) * e + (q * v2) * e + q * v' := by rw [hV]; grind
 have e2 : q * v1 = two - r := by omega
 have e3 : ((two - r) * 4294967296) * e + (r * 4294967296 + u3 + 1) * e = (two * 4294967296 + u3) * e + e := by grind
 rw [hW, e1, e2]
 omega
theorem zah {e v1 v2 v' two u3 w' V W q r : Int} (he : 0 < e) (hv1 : 1 ≤ v1) (hv2 : 0 ≤ v2) (hv' : 0 ≤ v' ∧ v' < e) (hw' : 0 ≤ w')
 (hV : V = (v1 * 4294967296 + v2) * e + v') (hW : W = (two * 4294967296 + u3) * e + w') (hqr : q * v1 + r = two) (hq0 : 0 ≤ q) (hq : q < 4294967296)
 (hok : q * v2 ≤ r * 4294967296 + u3) : q * V ≤ W + V := by
 have h1 : (q * v2) * e ≤ (r * 4294967296 + u3) * e := Int.mul_le_mul_of_nonneg_right hok (by omega)
 have h2 : q * v' ≤ 4294967296 * e := Int.mul_le_mul (by omega) (by omega) hv'.1 (by omega)
 have h3 : 1 * (4294967296 * e) ≤ v1 * (4294967296 * e) := Int.mul_le_mul_of_nonneg_right hv1 (by omega)
 have h4 : 0 ≤ v2 * e := Int.mul_nonneg hv2 (by omega)
 have e1 : q * V = ((q * v1) * 4294967296) * e + (q * v2) * e + q * v' := by rw [hV]; grind
 have e2 : q * v1 = two - r := by omega
 have e3 : ((two - r) * 4294967296) * e + (r * 4294967296 + u3) * e = (two * 4294967296 + u3) * e := by grind
 have e4 : V = v1 * (4294967296 * e) + v2 * e + v' := by rw [hV]; grind
 rw [e1, e2, hW]
 omega
theorem z98 {e v1 v2 v' two u3 w' V W q r : Int} (he : 0 < e) (hv2 : 0 ≤ v2 ∧ v2 < 4294967296) (hv' : 0 ≤ v' ∧ v' < e) (hw' : 0 ≤ w') (hu3 : 0 ≤ u3)
 (hV : V = (v1 * 4294967296 + v2) * e + v') (hW : W = (two * 4294967296 + u3) * e + w') (hqr : q * v1 + r = two) (hq0 : 0 ≤ q) (hq : q ≤ 4294967296)
 (hr : 4294967296 ≤ r) : q * V ≤ W := by
 have h0 : (v2 + 1) * e ≤ 4294967296 * e := Int.mul_le_mul_of_nonneg_right (by omega) (by omega)
 have h1 : q * (v2 * e + v') ≤ q * (4294967296 * e) := Int.mul_le_mul_of_nonneg_left (by
  have : (v2 + 1) * e = v2 * e + e := by grind
  omega) hq0
 have h2 : q * (4294967296 * e) ≤ r * (4294967296 * e) := Int.mul_le_mul_of_nonneg_right (by omega) (by omega)
 have h3 : 0 ≤ u3 * e := Int.mul_nonneg hu3 (by omega)
 have e1 : q * V = (q * v1) * (4294967296 * e) + q * (v2 * e + v') := by rw [hV]; grind
 have e2 : q * v1 = two - r := by omega
 have e3 : (two - r) * (4294967296 * e) = two * (4294967296 * e) - r * (4294967296 * e) := by grind
 have e4 : (two * 4294967296 + u3) * e = two * (4294967296 * e) + u3 * e := by grind
 rw [e1, e2, e3, hW, e4]
 omega
theorem zX {l : List Int} (h : dOk l) (i : Nat) : 0 ≤ l.getD i 0 ∧ l.getD i 0 < 4294967296 := by
 rw [List.getD_eq_getElem?_getD]
 cases hi : l[i]? with
 | none => decide
 | some d => exact h d (List.mem_of_getElem? hi)
theorem z11 {l : List Int} (h : dOk l) (n : Nat) : dOk (l.drop n) := fun d hd => h d (List.mem_of_mem_drop hd)
theorem xc {l : List Int} (h : dOk l) (n : Nat) : dOk (l.take n) := fun d hd => h d (List.mem_of_mem_take hd)
theorem z6h {l : List Int} (h : dOk l) (i : Nat) {x : Int} (hx : 0 ≤ x ∧ x < 4294967296) : dOk (l.set i x) := by
 intro d hd
 rcases List.mem_or_eq_of_mem_set hd with h1 | rfl
 ·exact h d h1
 ·exact hx
def tkL (q : Int) : List Int → List Int → Int → Int → List Int × Int × Int
 | [], _, c, b => ([], c, b)
 | x :: u, v, c, b =>
  let t := c + q * v.headD 0
  let d := x - t % 4294967296 - b
  let r := tkL q u v.tail (t / 4294967296) (if d < 0 then 1 else 0)
  (d % 4294967296 :: r.1, r.2)
theorem z1j (q : Int) : ∀ u v c b, (tkL q u v c b).1.length = u.length
 | [], _, _, _ => rfl
 | x :: u, v, c, b => by simp only [tkL, List.length_cons]; rw [z1j q u]
theorem z3U (q : Int) : ∀ u v c b, dOk (tkL q u v c b).1
 | [], _, _, _ => by intro d hd; cases hd
 | x :: u, v, c, b => by
  simp only [tkL]
  exact yp.2 ⟨by omega, z3U q u _ _ _⟩
theorem z6K (v : List Int) : dv v = v.headD 0 + 4294967296 * dv v.tail := by cases v <;> simp [dv]
theorem zba (q : Int) : ∀ (u v : List Int) (c b : Int), dOk u → (b = 0 ∨ b = 1) → v.length ≤ u.length →
 dv u - q * dv v - c - b = dv (tkL q u v c b).1 - pB u.length * ((tkL q u v c b).2.1 + (tkL q u v c b).2.2)
 | [], v, c, b, _, _, hl => by
  have : v = [] := List.length_eq_zero_iff.1 (by simpa using hl)
  subst this
  simp only [tkL, dv, pB, List.length_nil]
  omega
 | x :: u, v, c, b, hu, hb, hl => by
  obtain ⟨hx, hu⟩ := yp.1 hu
  have hl2 : v.tail.length ≤ u.length := by simp only [List.length_tail, List.length_cons] at hl ⊢; omega
  have ih := zba q u v.tail ((c + q * v.headD 0) / 4294967296) (if x - (c + q * v.headD 0) % 4294967296 - b < 0 then 1 else 0) hu (by split <;> simp) hl2
  simp only [tkL, dv, List.length_cons, pB]
  generalize tkL q u v.tail ((c + q * v.headD 0) / 4294967296) (if x - (c + q * v.headD 0) % 4294967296 - b < 0 then 1 else 0) = r at ih ⊢
  have e1 : q * dv v = q * v.headD 0 + 4294967296 * (q * dv v.tail) := by rw [z6K v]; grind
  have e2 : 4294967296 * pB u.length * (r.2.1 + r.2.2) = 4294967296 * (pB u.length * (r.2.1 + r.2.2)) := by grind
  rw [e1, e2]
  generalize q * v.headD 0 = qv at *
  generalize q * dv v.tail = qt at *
  generalize pB u.length * (r.2.1 + r.2.2) = pr at *
  by_cases hd : x - (c + qv) % 4294967296 - b < 0
  ·rw [if_pos hd] at ih; omega
  ·rw [if_neg hd] at ih; omega
theorem z5Z (q : Int) (hq : 0 ≤ q ∧ q < 4294967296) : ∀ (u v : List Int) (c b : Int), dOk v → (0 ≤ c ∧ c < 4294967296) → (b = 0 ∨ b = 1) →
 (v.length < u.length → (tkL q u v c b).2.1 = 0) ∧ ((tkL q u v c b).2.2 = 0 ∨ (tkL q u v c b).2.2 = 1)
 | [], v, c, b, _, _, hb => ⟨fun h => absurd h (Nat.not_lt_zero _), hb⟩
 | x :: u, v, c, b, hv, hc, hb => by
  have h0 : 0 ≤ v.headD 0 ∧ v.headD 0 < 4294967296 := by
   cases v with
   | nil => decide
   | cons a v => exact (yp.1 hv).1
  have ht : dOk v.tail := by cases v with | nil => exact hv | cons a v => exact (yp.1 hv).2
  have hm : 0 ≤ q * v.headD 0 := Int.mul_nonneg hq.1 h0.1
  have hm2 : q * v.headD 0 ≤ 4294967295 * 4294967295 := Int.mul_le_mul (by omega) (by omega) h0.1 (by decide)
  have ih := z5Z q hq u v.tail ((c + q * v.headD 0) / 4294967296) (if x - (c + q * v.headD 0) % 4294967296 - b < 0 then 1 else 0) ht (by omega) (by split <;> simp)
  simp only [tkL]
  refine ⟨fun h => ?_, ih.2⟩
  cases v with
  | nil =>
   cases u with
   | nil => simp only [tkL, List.headD_nil]; omega
   | cons y u => exact ih.1 (by simp)
  | cons a v => exact ih.1 (by simpa using h)
def gvL : List Int → List Int → Int → List Int × Int
 | [], _, c => ([], c)
 | x :: u, v, c =>
  let t := c + (x + v.headD 0)
  let r := gvL u v.tail (t / 4294967296)
  (t % 4294967296 :: r.1, r.2)
theorem z4p : ∀ u v c, (gvL u v c).1.length = u.length
 | [], _, _ => rfl
 | x :: u, v, c => by simp only [gvL, List.length_cons]; rw [z4p u]
theorem z6k : ∀ u v c, dOk (gvL u v c).1
 | [], _, _ => by intro d hd; cases hd
 | x :: u, v, c => by
  simp only [gvL]
  exact yp.2 ⟨by omega, z6k u _ _⟩
theorem zai : ∀ (u v : List Int) (c : Int), v.length ≤ u.length → dv u + dv v + c = dv (gvL u v c).1 + pB u.length * (gvL u v c).2
 | [], v, c, hl => by
  have : v = [] := List.length_eq_zero_iff.1 (by simpa using hl)
  subst this
  simp [gvL, dv, pB]
 | x :: u, v, c, hl => by
  have hl2 : v.tail.length ≤ u.length := by simp only [List.length_tail, List.length_cons] at hl ⊢; omega
  have ih := zai u v.tail ((c + (x + v.headD 0)) / 4294967296) hl2
  simp only [gvL, dv, List.length_cons, pB]
  generalize gvL u v.tail ((c + (x + v.headD 0)) / 4294967296) = r at ih ⊢
  have e1 := z6K v
  have e2 : 4294967296 * pB u.length * r.2 = 4294967296 * (pB u.length * r.2) := by grind
  rw [e1, e2]
  generalize pB u.length * r.2 = pr at *
  omega
theorem z5C : ∀ (u v : List Int) (c : Int), dOk u → dOk v → (0 ≤ c ∧ c ≤ 1) → 0 ≤ (gvL u v c).2 ∧ (gvL u v c).2 ≤ 1
 | [], _, _, _, _, hc => hc
 | x :: u, v, c, hu, hv, hc => by
  obtain ⟨hx, hu⟩ := yp.1 hu
  have h0 : 0 ≤ v.headD 0 ∧ v.headD 0 < 4294967296 := by
   cases v with
   | nil => decide
   | cons a v => exact (yp.1 hv).1
  have ht : dOk v.tail := by cases v with | nil => exact hv | cons a v => exact (yp.1 hv).2
  exact z5C u v.tail _ hu ht (by omega)
theorem drop_one {l : List Int} {n : Nat} (h : n < l.length) : l.drop n = l.getD n 0 :: l.drop (n + 1) := by
 rw [List.drop_eq_getElem_cons h, List.getD_eq_getElem?_getD, List.getElem?_eq_getElem h, Option.getD_some]
theorem z0E (l : List Int) (n : Nat) (h : n ≤ l.length) : dv l = dv (l.take n) + pB n * dv (l.drop n) := by
 have := z2P (l.take n) (l.drop n)
 rw [List.take_append_drop, List.length_take, Nat.min_eq_left h] at this
 exact this
theorem z8r {l : List Int} {n : Nat} (h : l.length = n + 2) : dv l = dv (l.take n) + pB n * (l.getD n 0 + 4294967296 * l.getD (n + 1) 0) := by
 rw [z0E l n (by omega), drop_one (by omega), drop_one (n := n + 1) (by omega), List.drop_of_length_le (by omega)]
 simp [dv]
theorem z8s {l : List Int} {n : Nat} (h : l.length = n + 3) : dv l = dv (l.take n) + pB n * (l.getD n 0 + 4294967296 * (l.getD (n + 1) 0 + 4294967296 * l.getD (n + 2) 0)) := by
 rw [z0E l n (by omega), drop_one (by omega), drop_one (n := n + 1) (by omega), drop_one (n := n + 2) (by omega), List.drop_of_length_le (by omega)]
 simp [dv]
def z0w (v1 v2 u3 : Int) : Nat → Int → Int → Int
 | 0, q, _ => q
 | n + 1, q, r => if 4294967296 ≤ q ∨ r * 4294967296 + u3 < q * v2 then (if 4294967296 ≤ r + v1 then q - 1 else z0w v1 v2 u3 n (q - 1) (r + v1)) else q
theorem z42 {e v1 v2 v' two u3 w' V W : Int} (he : 0 < e) (hv1 : 1 ≤ v1) (hv2 : 0 ≤ v2 ∧ v2 < 4294967296) (hv' : 0 ≤ v' ∧ v' < e) (hw' : 0 ≤ w' ∧ w' < e)
 (hu3 : 0 ≤ u3 ∧ u3 < 4294967296) (hV : V = (v1 * 4294967296 + v2) * e + v') (hW : W = (two * 4294967296 + u3) * e + w') (hVp : 0 < V) (hWB : W < 4294967296 * V) (h0W : 0 ≤ W) :
 ∀ (n : Nat) (q r : Int), q * v1 + r = two → 0 ≤ q → q ≤ 4294967297 → 0 ≤ r → r < 4294967296 → 4294967296 ≤ r + n * v1 → W < (q + 1) * V →
  0 ≤ z0w v1 v2 u3 n q r ∧ z0w v1 v2 u3 n q r < 4294967296 ∧ W < (z0w v1 v2 u3 n q r + 1) * V ∧ z0w v1 v2 u3 n q r * V ≤ W + V := by
 intro n
 induction n with
 | zero => intro q r _ _ _ _ hr hf _; simp only [Int.natCast_zero, Int.zero_mul] at hf; omega
 | succ n ih =>
  intro q r hqr hq0 hqB hr0 hr hf hup
  unfold z0w
  by_cases hbad : 4294967296 ≤ q ∨ r * 4294967296 + u3 < q * v2; rotate_left
  ·rw [if_neg hbad]
   have hq : q < 4294967296 := by omega
   exact ⟨hq0, hq, hup, zah he hv1 hv2.1 hv' hw'.1 hV hW hqr hq0 hq (by omega)⟩
  rw [if_pos hbad]
  have hlow : W < q * V := by
   rcases hbad with h | h
   ·have := Int.mul_le_mul_of_nonneg_right h (Int.le_of_lt hVp)
    omega
   ·exact z7C he hv'.1 hw'.2 hV hW hqr hq0 h
  have hq1 : 1 ≤ q := by
   rcases Int.lt_or_le q 1 with h | h
   ·have : q = 0 := by omega
    subst this
    rw [Int.zero_mul] at hlow
    omega
   ·exact h
  have hqr2 : (q - 1) * v1 + (r + v1) = two := by
   have : (q - 1) * v1 = q * v1 - v1 := by grind
   omega
  by_cases hfar : 4294967296 ≤ r + v1
  ·rw [if_pos hfar]
   have hle := z98 (q := q - 1) he hv2 hv' hw'.1 hu3.1 hV hW hqr2 (by omega) (by omega) hfar
   refine ⟨by omega, ?_, by rw [Int.sub_add_cancel]; exact hlow, by omega⟩
   rcases Int.lt_or_le (q - 1) 4294967296 with h | h
   ·exact h
   ·have := Int.mul_le_mul_of_nonneg_right h (Int.le_of_lt hVp)
    omega
  ·rw [if_neg hfar]
   have hcast : ((n + 1 : Nat) : Int) * v1 = n * v1 + v1 := by rw [Int.natCast_add]; grind
   exact ih (q - 1) (r + v1) hqr2 (by omega) (by omega) (by omega) (by omega) (by omega) (by rw [Int.sub_add_cancel]; exact hlow)
def z0v (v u : List Int) : List Int × Int :=
 let s := v.length
 let two := u.getD s 0 * 4294967296 + u.getD (s - 1) 0
 let v1 := v.getD (s - 1) 0
 let q := z0w v1 (v.getD (s - 2) 0) (u.getD (s - 2) 0) 3 (two / v1) (two % v1)
 let t := tkL q u v 0 0
 if t.2.2 = 0 then (t.1, q) else ((gvL t.1 v 0).1, q - 1)
theorem z5V (v u : List Int) : (z0v v u).1.length = u.length := by
 unfold z0v
 simp only
 split
 ·exact z1j _ _ _ _ _
 ·rw [z4p, z1j]
theorem z7c (v u : List Int) : dOk (z0v v u).1 := by
 unfold z0v
 simp only
 split
 ·exact z3U _ _ _ _ _
 ·exact z6k _ _ _
theorem z54 {v u : List Int} {n : Nat} (hv : dOk v) (hu : dOk u) (hvl : v.length = n + 2) (hul : u.length = n + 3) (hv1 : 2147483648 ≤ v.getD (n + 1) 0) (hlt : dv u < 4294967296 * dv v) :
 ∃ k, dv (z0v v u).1 = dv u - k * dv v ∧ 0 ≤ dv (z0v v u).1 ∧ dv (z0v v u).1 < dv v ∧ 0 ≤ (z0v v u).2 ∧ (z0v v u).2 < 4294967296 := by
 have b1 := yc (v.take n) (xc hv n)
 have b2 := yc (u.take n) (xc hu n)
 rw [List.length_take, Nat.min_eq_left (by omega)] at b1 b2
 have g1 := zX hv (n + 1)
 have g2 := zX hv n
 have g3 := zX hu n
 have g4 := zX hu (n + 1)
 have g5 := zX hu (n + 2)
 have hV : dv v = (v.getD (n + 1) 0 * 4294967296 + v.getD n 0) * pB n + dv (v.take n) := by rw [z8r hvl]; grind
 have hW : dv u = ((u.getD (n + 2) 0 * 4294967296 + u.getD (n + 1) 0) * 4294967296 + u.getD n 0) * pB n + dv (u.take n) := by rw [z8s hul]; grind
 have hp := z0N n
 have hVp : 0 < dv v := by
  have := Int.mul_le_mul_of_nonneg_right (show (1 : Int) ≤ v.getD (n + 1) 0 * 4294967296 + v.getD n 0 by omega) (Int.le_of_lt hp)
  omega
 have h0W := (yc u hu).1
 have hdv := (yc v hv).1
 have htop : u.getD (n + 2) 0 ≤ v.getD (n + 1) 0 := by
  rcases Int.lt_or_le (v.getD (n + 1) 0) (u.getD (n + 2) 0) with h | h
  ·have h2 : (v.getD (n + 1) 0 * 4294967296 + v.getD n 0 + 1) * 4294967296 * pB n ≤ ((u.getD (n + 2) 0 * 4294967296 + u.getD (n + 1) 0) * 4294967296 + u.getD n 0) * pB n := Int.mul_le_mul_of_nonneg_right (by omega) (Int.le_of_lt hp)
   have h3 : (v.getD (n + 1) 0 * 4294967296 + v.getD n 0 + 1) * 4294967296 * pB n = 4294967296 * ((v.getD (n + 1) 0 * 4294967296 + v.getD n 0) * pB n) + 4294967296 * pB n := by grind
   omega
  ·exact h
 generalize hq : z0w (v.getD (n + 1) 0) (v.getD n 0) (u.getD n 0) 3 ((u.getD (n + 2) 0 * 4294967296 + u.getD (n + 1) 0) / v.getD (n + 1) 0) ((u.getD (n + 2) 0 * 4294967296 + u.getD (n + 1) 0) % v.getD (n + 1) 0) = q
 have hs : z0v v u = (if (tkL q u v 0 0).2.2 = 0 then ((tkL q u v 0 0).1, q) else ((gvL (tkL q u v 0 0).1 v 0).1, q - 1)) := by
  unfold z0v
  rw [hvl]
  simp only [show n + 2 - 1 = n + 1 from rfl, show n + 2 - 2 = n from rfl, hq]
 have key : 0 ≤ q ∧ q < 4294967296 ∧ dv u < (q + 1) * dv v ∧ q * dv v ≤ dv u + dv v := by
  subst hq
  have t1 : 0 ≤ u.getD (n + 2) 0 * 4294967296 + u.getD (n + 1) 0 := by omega
  have t2 : u.getD (n + 2) 0 * 4294967296 + u.getD (n + 1) 0 < v.getD (n + 1) 0 * 4294967296 + 4294967296 := by omega
  generalize u.getD (n + 2) 0 * 4294967296 + u.getD (n + 1) 0 = two at *
  generalize v.getD (n + 1) 0 = v1 at *
  have e1 := Int.mul_ediv_add_emod two v1
  have e2 := Int.emod_nonneg two (show v1 ≠ 0 by omega)
  have e3 := Int.emod_lt_of_pos two (show 0 < v1 by omega)
  have e4 : two / v1 ≤ 4294967297 := by
   have : two / v1 < 4294967298 := Int.ediv_lt_of_lt_mul (by omega) (by omega)
   omega
  have e5 : 0 ≤ two / v1 := Int.ediv_nonneg (by omega) (by omega)
  refine z42 hp (by omega) g2 b1 b2 g3 hV hW hVp hlt h0W 3 _ _ (by rw [Int.mul_comm]; exact e1) e5 e4 e2 (by omega) (by omega) ?_
  have e6 : (two / v1 + 1) * v1 = v1 * (two / v1) + v1 := by grind
  exact z6P hp (by omega) g2.1 b1.1 g3.2 b2.2 hV hW (by omega) e5
 have hT := zba q u v 0 0 hu (.inl rfl) (by omega)
 have hC := z5Z q ⟨key.1, key.2.1⟩ u v 0 0 hv (by decide) (.inl rfl)
 have hc0 := hC.1 (by omega)
 have hTb := yc _ (z3U q u v 0 0)
 rw [z1j] at hTb
 have hup : (q + 1) * dv v = q * dv v + dv v := by grind
 rw [hs]
 rw [hc0, Int.zero_add] at hT
 by_cases hb : (tkL q u v 0 0).2.2 = 0
 ·rw [if_pos hb]
  dsimp only
  rw [hb, Int.mul_zero] at hT
  exact ⟨q, by omega, hTb.1, by omega, key.1, key.2.1⟩
 rw [if_neg hb]
 dsimp only
 have hb1 : (tkL q u v 0 0).2.2 = 1 := hC.2.resolve_left hb
 rw [hb1, Int.mul_one] at hT
 have hG := zai (tkL q u v 0 0).1 v 0 (by rw [z1j]; omega)
 have hGc := z5C (tkL q u v 0 0).1 v 0 (z3U _ _ _ _ _) hv (by decide)
 have hGb := yc _ (z6k (tkL q u v 0 0).1 v 0)
 rw [z4p, z1j] at hGb
 rw [z1j] at hG
 have hVB : dv v < pB u.length := by
  have := (yc v hv).2
  rw [hvl] at this
  rw [hul]
  have h2 : pB (n + 3) = 4294967296 * pB (n + 2) := rfl
  have := z0N (n + 2)
  omega
 have hg1 : (gvL (tkL q u v 0 0).1 v 0).2 = 1 := by
  rcases Int.lt_or_le (gvL (tkL q u v 0 0).1 v 0).2 1 with h | h
  ·have h0 : (gvL (tkL q u v 0 0).1 v 0).2 = 0 := by omega
   rw [h0, Int.mul_zero] at hG
   omega
  ·omega
 rw [hg1, Int.mul_one] at hG
 have hm : (q - 1) * dv v = q * dv v - dv v := by grind
 have hq1 : 1 ≤ q := by
  rcases Int.lt_or_le q 1 with h | h
  ·have : q = 0 := by omega
   subst this
   simp only [Int.zero_mul] at *
   omega
  ·exact h
 exact ⟨q - 1, by omega, hGb.1, by omega, by omega, by omega⟩
end Go.Proofs.QP

