import Derived.Test.YtbkknoipgmlcmaaGreatDoorQGM22
set_option linter.all false
set_option maxHeartbeats 8000000
set_option maxRecDepth 100000
namespace Go.Proofs.QP
open Go.RowKit Go.Proofs.PW Go.Proofs.PL Go.Proofs.PM Go.Proofs.FX
section
section
attribute [local go_sem] yd zV
attribute [local go_sem] xf xg xD xE yI yJ xl xm
def zR.l0 : Nat → List Int → List Int → Int → Option (Bool)
 | 0, _, _, _ => none
 | k + 1, x0, x1, x5 => if x5 < (x0.length : Int) then (if 0 ≤ x5 then (if x5 < (x1.length : Int) then (if (rd x0 x5) = (rd x1 x5) then (zR.l0 k x0 x1 (wrap64 (x5 + 1))) else (some false)) else (none)) else (none)) else (some true)
def zR.f (k : Nat) (l0 : List Int) (l1 : List Int) : Option (Bool) := if (l0.length : Int) = (l1.length : Int) then (zR.l0 k l0 l1 0) else (some false)
theorem zR.calls (k : Nat) (A0 : Option Addr) (c0 : Nat) (l0 : List Int) (A1 : Option Addr) (c1 : Nat) (l1 : List Int) (r : Bool) (w : World) (hr0 : Kd.C (Kd.int .i64) w A0 l0.length l0) (hc0 : l0.length ≤ c0) (hr1 : Kd.C (Kd.int .i64) w A1 l1.length l1) (hc1 : l1.length ≤ c1) (h : zR.f k l0 l1 = some r) :
 Calls Tryz.prog 26 #[.slice A0 l0.length c0, .slice A1 l1.length c1] w fun e w' => e = .returned (.bool r) ∧ zj w w' := by
 have HR0 := aS hr0
 have HC0 := aS hc0
 clear hr0 hc0
 have HR1 := aS hr1
 have HC1 := aS hc1
 clear hr1 hc1
 have H := h
 unfold zR.f at H
 clear h
 by_cases c3 : (l0.length : Int) = (l1.length : Int); rotate_left
 ·rw [if_neg c3] at H
  have c3b0 := bF c3
  have c3b1 := nT c3
  have c3b2 : (l0.length == l1.length) = false := by first | simpa using c3 | (simp at c3 ⊢; omega)
  obtain rfl := sI H
  go_enter Tryz.func26, Tryz.ntmps26
  go_wp2
  repeat (go_quiet (fail); try go_wp2)
  go_ret
  exact ⟨by first | rfl | (simp; done) | (simp [*]; done), by repeat (first | exact zj.refl _ | apply zj.step)⟩
 rw [if_pos c3] at H
 have c3b0 := bT c3
 have c3b1 := nF c3
 have c3b2 : (l0.length == l1.length) = true := by first | simpa using c3 | (simp at c3 ⊢; omega)
 clear c3
 have H' := aS H
 clear H
 go_enter Tryz.func26, Tryz.ntmps26
 go_wp2
 repeat (go_quiet (fail); try go_wp2)
 go_loopg [5] k (fun kq v5 w' => ∃ (x5_1 : Int), v5 = .int .i64 x5_1 ∧ Aside0 (zR.l0 kq l0 l1 x5_1 = some r) ∧ Aside0 (kq ≤ k) ∧ zj w w')
 case atStart => exact ⟨(0), rs, H', ⟨Nat.le_refl _⟩, by repeat (first | exact zj.refl _ | apply zj.step)⟩
 case round =>
  clear H'
  obtain ⟨x5_1, rfl, HA, HK1, ⟨m1, rfl⟩⟩ := hrel
  cases gk with
  | zero => exact absurd HA.out (by simp [zR.l0])
  | succ k1 =>
   have H := HA.out
   clear HA
   simp only [zR.l0] at H
   by_cases c4 : x5_1 < (l0.length : Int); rotate_left
   ·rw [if_neg c4] at H
    have c4b0 := dF c4
    clear c4
    obtain rfl := sI H
    go_wp2
    repeat (go_quiet (fail); try go_wp2)
    go_ret
    exact ⟨by first | rfl | (simp; done) | (simp [*]; done), by repeat (first | exact zj.refl _ | apply zj.step)⟩
   rw [if_pos c4] at H
   have c4b0 := dT c4
   clear c4
   replace H := iD_ H
   obtain ⟨c5b0, H⟩ := H
   replace H := iD_ H
   obtain ⟨c6b0, H⟩ := H
   by_cases c7 : (rd l0 x5_1) = (rd l1 x5_1)
   ·rw [if_pos c7] at H
    have c7b0 := bT c7
    have c7b1 := nF c7
    clear c7
    have H' := aS H
    clear H
    obtain ⟨ad514, e514, hx514_0⟩ := Kd.zT HR0.out x5_1 oa oa
    cases e514
    have p514 : (0 ≤ (x5_1 : Int)) = True := tO
    have q514 : (x5_1 < (l0.length : Int)) = True := tO
    obtain ⟨ad515, e515, hx515_0⟩ := Kd.zT HR1.out x5_1 oa oa
    cases e515
    have p515 : (0 ≤ (x5_1 : Int)) = True := tO
    have q515 : (x5_1 < (l1.length : Int)) = True := tO
    go_wp2
    repeat (go_quiet (fail); try go_wp2)
    go_roundg k1
    case measure => have := HK1.out; omega
    case rel => exact ⟨(wrap64 (x5_1 + 1)), rs, H', ⟨by have := HK1.out; omega⟩, by repeat (first | exact zj.refl _ | apply zj.step)⟩
   ·rw [if_neg c7] at H
    have c7b0 := bF c7
    have c7b1 := nT c7
    obtain rfl := sI H
    obtain ⟨ad514, e514, hx514_0⟩ := Kd.zT HR0.out x5_1 oa oa
    cases e514
    have p514 : (0 ≤ (x5_1 : Int)) = True := tO
    have q514 : (x5_1 < (l0.length : Int)) = True := tO
    obtain ⟨ad515, e515, hx515_0⟩ := Kd.zT HR1.out x5_1 oa oa
    cases e515
    have p515 : (0 ≤ (x5_1 : Int)) = True := tO
    have q515 : (x5_1 < (l1.length : Int)) = True := tO
    go_wp2
    repeat (go_quiet (fail); try go_wp2)
    go_ret
    exact ⟨by first | rfl | (simp; done) | (simp [*]; done), by repeat (first | exact zj.refl _ | apply zj.step)⟩
def xp.f (l0 : List (S63)) (a1 : Int) : Option (List Int) := if 0 ≤ a1 then (if a1 < (l0.length : Int) then (if ((zb l0 a1).f0) = 20 then (some (([(zb l0 a1).f1] : List Int))) else (if ((zb l0 a1).f0) = 26 then (some ([] : List Int)) else (if ((zb l0 a1).f0) = 21 then (some (([wrap64 (a1 + 1), (zb l0 a1).f1] : List Int))) else (if ((zb l0 a1).f0) = 22 then (some (([wrap64 (a1 + 1), (zb l0 a1).f2, (zb l0 a1).f3] : List Int))) else (some (([wrap64 (a1 + 1)] : List Int))))))) else (none)) else (none)
theorem xp.calls (A0 : Option Addr) (c0 : Nat) (l0 : List (S63)) (a1 : Int) (r : List Int) (w : World) (hr0 : Kd.C k63 w A0 l0.length l0) (hc0 : l0.length ≤ c0) (h : xp.f l0 a1 = some r) :
 Calls Tryz.prog 122 #[.slice A0 l0.length c0, .int .i64 a1] w fun e w' => ∃ v0_ : Value, e = .returned (v0_) ∧ Kd.R (Kd.int .i64) 3 w' w.heap.size (fun _ => True) v0_ r ∧ Below w.heap.size w w' := by
 have hu63 := Tryz.underlying63
 have HR0 := aS hr0
 have HC0 := aS hc0
 clear hr0 hc0
 have HB := hR w
 have H := h
 unfold xp.f at H
 clear h
 replace H := iD_ H
 obtain ⟨c3b0, H⟩ := H
 replace H := iD_ H
 obtain ⟨c4b0, H⟩ := H
 by_cases c5 : ((zb l0 a1).f0) = 20
 focus
  rw [if_pos c5] at H
  have c5b0 := bT c5
  have c5b1 := nF c5
  clear c5
  replace H := yS H
  obtain ⟨y518, Ny518, H⟩ := H
 rotate_left 1
 focus
  rw [if_neg c5] at H
  have c5b0 := bF c5
  have c5b1 := nT c5
  by_cases c10 : ((zb l0 a1).f0) = 26
  focus
   rw [if_pos c10] at H
   have c10b0 := bT c10
   have c10b1 := nF c10
   clear c10
  rotate_left 1
  focus
   rw [if_neg c10] at H
   have c10b0 := bF c10
   have c10b1 := nT c10
   by_cases c13 : ((zb l0 a1).f0) = 21
   focus
    rw [if_pos c13] at H
    have c13b0 := bT c13
    have c13b1 := nF c13
    clear c13
    replace H := yS H
    obtain ⟨y521, Ny521, H⟩ := H
   rotate_left 1
   focus
    rw [if_neg c13] at H
    have c13b0 := bF c13
    have c13b1 := nT c13
    by_cases c18 : ((zb l0 a1).f0) = 22
    focus
     rw [if_pos c18] at H
     have c18b0 := bT c18
     have c18b1 := nF c18
     clear c18
     replace H := yS H
     obtain ⟨y524, Ny524, H⟩ := H
    rotate_left 1
    focus
     rw [if_neg c18] at H
     have c18b0 := bF c18
     have c18b1 := nT c18
     replace H := yS H
     obtain ⟨y527, Ny527, H⟩ := H
    rotate_left 1
   rotate_left 2
  rotate_left 3
 rotate_left 4
 all_goals (obtain rfl := sI H; obtain ⟨ad516, A516_6, c516_6, A516_7, c516_7, e516, hx516_0, hx516_1, hx516_2, hx516_3, hx516_4, hx516_5, hx516_6, hx516_7, hl516_6, hi516_6, hl516_7, hi516_7⟩ := z0j HR0.out a1 oa oa; cases e516; have HR516_6 := aS hi516_6; have HC516_6 := aS hl516_6; clear hi516_6 hl516_6; have HR516_7 := aS hi516_7; have HC516_7 := aS hl516_7; clear hi516_7 hl516_7; have p516 : (0 ≤ (a1 : Int)) = True := tO; have q516 : (a1 < (l0.length : Int)) = True := tO)
 all_goals (go_enter Tryz.func122, Tryz.ntmps122)
 all_goals (go_wp2_with (first | ((with_reducible refine zq (N := 5) rfl ?_); refine bx (N := 5) (cs := #[.int .i64 0, .int .i64 0, .int .i64 0, .int .i64 0, .int .i64 0, .bool false, .slice none 0 0, .slice none 0 0]) (t := 63) ?_; intro gb517 hg wq1 hbox hb; have BK517 := aS (hbox); have GW517 := (gz hg HB : Aside0 (w.heap.size ≤ gb517)); have GE517 := (gz hg HB : Aside0 (w.heap.size ≤ gb517)); replace HB := hB_ HB hb; clear hb hbox hg; obtain ⟨_, _, _, _, _, _, _, _, _, _, _, _, _, _, _, _⟩ := cf8 BK517.out) | ((with_reducible refine zq (N := 16) rfl ?_); refine Kd.z1q (Kd.int .i64) _ 3 ?hg (N := 16) ?hd (xs := ([(zb l0 a1).f1] : List Int)) (inner := [.int .i64 ((zb l0 a1).f1)]) (ok := fun _ => True) (okp := fun _ => True) ?hr ?hp (fun _ hk => hk) trivial (Below.refl _ _) (Nat.le_refl _) (by simp) ?_; (case hd => rfl); (case hg => rfl); (case hr => first | (go_simp; done) | (go_simp; rfl)); (case hp => exact (zQ.one (show Kd.M (Kd.int .i64) _ _ _ ((zb l0 a1).f1) [.int .i64 ((zb l0 a1).f1)] from rfl) (zQ.none _ _))); intro v519 wq2 ho9 hb hg_ hnew_; clear hg_ hnew_; (first | rw [← Ny518.out] at ho9 | (simp only [Int.reduceToNat] at ho9; rw [← Ny518.out] at ho9)); have HO520 := aS (Kd.zL ho9 (zg (bl HB))); replace BK517 := aS (zf (g := gb517) (o := .cells #[.int .i64 ((zb l0 a1).f0), .int .i64 ((zb l0 a1).f1), .int .i64 ((zb l0 a1).f2), .int .i64 ((zb l0 a1).f3), .int .i64 ((zb l0 a1).f4.f0), .bool ((zb l0 a1).f4.f1), .slice A516_6 ((zb l0 a1).f4.f2).length c516_6, .slice A516_7 ((zb l0 a1).f4.f3).length c516_7] 63 (0, 0)) (bp BK517) hb); replace HB := hB_ HB hb; clear hb ho9) | ((with_reducible refine zq (N := 25) rfl ?_); refine Kd.z1q (Kd.int .i64) _ 3 ?hg (N := 25) ?hd (xs := ([wrap64 (a1 + 1), (zb l0 a1).f1] : List Int)) (inner := [.int .i64 (wrap64 (a1 + 1)), .int .i64 ((zb l0 a1).f1)]) (ok := fun _ => True) (okp := fun _ => True) ?hr ?hp (fun _ hk => hk) trivial (Below.refl _ _) (Nat.le_refl _) (by simp) ?_; (case hd => rfl); (case hg => rfl); (case hr => first | (go_simp; done) | (go_simp; rfl)); (case hp => exact (zQ.one (show Kd.M (Kd.int .i64) _ _ _ (wrap64 (a1 + 1)) [.int .i64 (wrap64 (a1 + 1))] from rfl) (zQ.one (show Kd.M (Kd.int .i64) _ _ _ ((zb l0 a1).f1) [.int .i64 ((zb l0 a1).f1)] from rfl) (zQ.none _ _)))); intro v522 wq2 ho17 hb hg_ hnew_; clear hg_ hnew_; (first | rw [← Ny521.out] at ho17 | (simp only [Int.reduceToNat] at ho17; rw [← Ny521.out] at ho17)); have HO523 := aS (Kd.zL ho17 (zg (bl HB))); replace BK517 := aS (zf (g := gb517) (o := .cells #[.int .i64 ((zb l0 a1).f0), .int .i64 ((zb l0 a1).f1), .int .i64 ((zb l0 a1).f2), .int .i64 ((zb l0 a1).f3), .int .i64 ((zb l0 a1).f4.f0), .bool ((zb l0 a1).f4.f1), .slice A516_6 ((zb l0 a1).f4.f2).length c516_6, .slice A516_7 ((zb l0 a1).f4.f3).length c516_7] 63 (0, 0)) (bp BK517) hb); replace HB := hB_ HB hb; clear hb ho17) | ((with_reducible refine zq (N := 34) rfl ?_); refine Kd.z1q (Kd.int .i64) _ 3 ?hg (N := 34) ?hd (xs := ([wrap64 (a1 + 1), (zb l0 a1).f2, (zb l0 a1).f3] : List Int)) (inner := [.int .i64 (wrap64 (a1 + 1)), .int .i64 ((zb l0 a1).f2), .int .i64 ((zb l0 a1).f3)]) (ok := fun _ => True) (okp := fun _ => True) ?hr ?hp (fun _ hk => hk) trivial (Below.refl _ _) (Nat.le_refl _) (by simp) ?_; (case hd => rfl); (case hg => rfl); (case hr => first | (go_simp; done) | (go_simp; rfl)); (case hp => exact (zQ.one (show Kd.M (Kd.int .i64) _ _ _ (wrap64 (a1 + 1)) [.int .i64 (wrap64 (a1 + 1))] from rfl) (zQ.one (show Kd.M (Kd.int .i64) _ _ _ ((zb l0 a1).f2) [.int .i64 ((zb l0 a1).f2)] from rfl) (zQ.one (show Kd.M (Kd.int .i64) _ _ _ ((zb l0 a1).f3) [.int .i64 ((zb l0 a1).f3)] from rfl) (zQ.none _ _))))); intro v525 wq2 ho22 hb hg_ hnew_; clear hg_ hnew_; (first | rw [← Ny524.out] at ho22 | (simp only [Int.reduceToNat] at ho22; rw [← Ny524.out] at ho22)); have HO526 := aS (Kd.zL ho22 (zg (bl HB))); replace BK517 := aS (zf (g := gb517) (o := .cells #[.int .i64 ((zb l0 a1).f0), .int .i64 ((zb l0 a1).f1), .int .i64 ((zb l0 a1).f2), .int .i64 ((zb l0 a1).f3), .int .i64 ((zb l0 a1).f4.f0), .bool ((zb l0 a1).f4.f1), .slice A516_6 ((zb l0 a1).f4.f2).length c516_6, .slice A516_7 ((zb l0 a1).f4.f3).length c516_7] 63 (0, 0)) (bp BK517) hb); replace HB := hB_ HB hb; clear hb ho22) | ((with_reducible refine zq (N := 37) rfl ?_); refine Kd.z1q (Kd.int .i64) _ 3 ?hg (N := 37) ?hd (xs := ([wrap64 (a1 + 1)] : List Int)) (inner := [.int .i64 (wrap64 (a1 + 1))]) (ok := fun _ => True) (okp := fun _ => True) ?hr ?hp (fun _ hk => hk) trivial (Below.refl _ _) (Nat.le_refl _) (by simp) ?_; (case hd => rfl); (case hg => rfl); (case hr => first | (go_simp; done) | (go_simp; rfl)); (case hp => exact (zQ.one (show Kd.M (Kd.int .i64) _ _ _ (wrap64 (a1 + 1)) [.int .i64 (wrap64 (a1 + 1))] from rfl) (zQ.none _ _))); intro v528 wq2 ho26 hb hg_ hnew_; clear hg_ hnew_; (first | rw [← Ny527.out] at ho26 | (simp only [Int.reduceToNat] at ho26; rw [← Ny527.out] at ho26)); have HO529 := aS (Kd.zL ho26 (zg (bl HB))); replace BK517 := aS (zf (g := gb517) (o := .cells #[.int .i64 ((zb l0 a1).f0), .int .i64 ((zb l0 a1).f1), .int .i64 ((zb l0 a1).f2), .int .i64 ((zb l0 a1).f3), .int .i64 ((zb l0 a1).f4.f0), .bool ((zb l0 a1).f4.f1), .slice A516_6 ((zb l0 a1).f4.f2).length c516_6, .slice A516_7 ((zb l0 a1).f4.f3).length c516_7] 63 (0, 0)) (bp BK517) hb); replace HB := hB_ HB hb; clear hb ho26)))
 ·go_ret
  exact ⟨_, re, by exact rA HO520.out, bl HB⟩
 ·go_ret
  exact ⟨_, re, by first | exact Kd.z0l _ _ _ _ _ | exact Kd.z2l _ _ _ _ _ | exact Kd.z2w _ _ _ _ _ | exact Kd.z2o _ _ _ _ _ | exact Kd.z2u _ _ _ _ _, bl HB⟩
 ·go_ret
  exact ⟨_, re, by exact rA HO523.out, bl HB⟩
 ·go_ret
  exact ⟨_, re, by exact rA HO526.out, bl HB⟩
 ·go_ret
  exact ⟨_, re, by exact rA HO529.out, bl HB⟩
def zJ.l0 : Nat → List (S63) → List Bool → List Int → Option (List Bool)
 | 0, _, _, _ => none
 | k + 1, x0, x3, x4 => if (x4.length : Int) > 0 then (if 0 < (x4.length : Int) then (if 1 ≤ (x4.length : Int) then ((some (x4.drop (1 : Int).toNat : List Int)).bind fun y537 => (if 0 ≤ (rd x4 0) then (if (rd x4 0) < (x3.length : Int) then (if z1X false x3 (rd x4 0) = true then (zJ.l0 k x0 x3 y537) else ((xp.f x0 (rd x4 0)).bind fun t542 => (if y537.length + t542.length < 17592186044416 then (zJ.l0 k x0 (x3.set ((rd x4 0) : Int).toNat true) (y537 ++ t542)) else (none)))) else (none)) else (none))) else (none)) else (none)) else (some x3)
def zJ.f (k : Nat) (l0 : List (S63)) : Option (List Bool) := if 0 ≤ (l0.length : Int) then (if ((l0.length : Int) : Int).toNat ≤ 281474976710656 then (zJ.l0 k l0 (List.replicate ((l0.length : Int) : Int).toNat false) (([0] : List Int))) else (none)) else (none)
theorem zJ.calls (k : Nat) (A0 : Option Addr) (c0 : Nat) (l0 : List (S63)) (r : List Bool) (w : World) (hr0 : Kd.C k63 w A0 l0.length l0) (hc0 : l0.length ≤ c0) (h : zJ.f k l0 = some r) :
 Calls Tryz.prog 77 #[.slice A0 l0.length c0] w fun e w' => ∃ v0_ : Value, e = .returned (v0_) ∧ Kd.R Kd.bool 4 w' w.heap.size (fun _ => True) v0_ r ∧ Below w.heap.size w w' := by
 have HR0 := aS hr0
 have HC0 := aS hc0
 clear hr0 hc0
 have HB := hR w
 have H := h
 unfold zJ.f at H
 clear h
 replace H := iE_ H
 obtain ⟨c2b0, c2b1, H⟩ := H
 replace H := iE_ H
 obtain ⟨c3b0, c3b1, H⟩ := H
 obtain ⟨y530, Ny530⟩ := yE (List.replicate ((l0.length : Int) : Int).toNat false : List Bool)
 rw [← Ny530.out] at H
 obtain ⟨y533, Ny533⟩ := yE (([0] : List Int) : List Int)
 rw [← Ny533.out] at H
 have H' := aS H
 clear H
 go_enter Tryz.func77, Tryz.ntmps77
 go_wp2_with (first | ((with_reducible refine zq (N := 8) rfl ?_); refine Kd.z1w Kd.bool _ 4 rfl (N := 8) rfl 120 _ _ rfl (l0.length : Int) rfl rfl Tryz.underlying120 (.bool false) 1 zci rfl (by decide) (by omega) false (ok := fun _ => True) (okp := fun _ => True) rfl (fun _ hk => hk) trivial (oa) (Nat.le_trans (Nat.mul_le_mul_right _ (oa : (l0.length : Int).toNat ≤ 281474976710656)) (by omega)) (Below.refl _ _) (Nat.le_refl _) ?_; intro v531 w4 ho5 hb hg_ hnew_; clear hg_ hnew_; (first | rw [← Ny530.out] at ho5 | (simp only [Int.reduceToNat] at ho5; rw [← Ny530.out] at ho5)); have HO532 := aS (Kd.zL ho5 (zg (bl HB))); replace HB := hB_ HB hb; clear hb ho5) | ((with_reducible refine zq (N := 9) rfl ?_); refine Kd.z1q (Kd.int .i64) _ 3 ?hg (N := 9) ?hd (xs := ([0] : List Int)) (inner := [.int .i64 0]) (ok := fun _ => True) (okp := fun _ => True) ?hr ?hp (fun _ hk => hk) trivial (Below.refl _ _) (Nat.le_refl _) (by simp) ?_; (case hd => rfl); (case hg => rfl); (case hr => first | (go_simp; done) | (go_simp; rfl)); (case hp => exact (zQ.one (show Kd.M (Kd.int .i64) _ _ _ 0 [.int .i64 0] from rfl) (zQ.none _ _))); intro v534 w6 ho7 hb hg_ hnew_; clear hg_ hnew_; (first | rw [← Ny533.out] at ho7 | (simp only [Int.reduceToNat] at ho7; rw [← Ny533.out] at ho7)); replace HO532 := aS (Kd.zU (by exact rA HO532.out) hb); have HO535 := aS (Kd.zL ho7 (zg (bl HB))); replace HB := hB_ HB hb; clear hb ho7))
 go_loopg [4] k (fun kq v4 w' => ∃ (x3_1 : List Bool) (x4_1 : List Int), Aside0 (zJ.l0 kq l0 x3_1 x4_1 = some r) ∧ Aside0 (kq ≤ k) ∧ Aside0 (Kd.R Kd.bool 4 w' w.heap.size (fun _ => True) v531 x3_1) ∧ Aside0 (Kd.Q (Kd.int .i64) 3 w' w.heap.size (fun _ => True) v4 x4_1) ∧ Aside0 (Below w.heap.size w w'))
 case atStart => exact ⟨(y530), (y533), H', ⟨Nat.le_refl _⟩, ⟨by exact rA HO532.out⟩, ⟨Kd.z9L (by exact rA HO535.out)⟩, ⟨bl HB⟩⟩
 case round =>
  clear H'
  obtain ⟨x3_1, x4_1, HA, HK1, HO_3, HO_4, HB⟩ := hrel
  cases gk with
  | zero => exact absurd HA.out (by simp [zJ.l0])
  | succ k1 =>
   have H := HA.out
   clear HA
   simp only [zJ.l0] at H
   by_cases c8 : (x4_1.length : Int) > 0; rotate_left
   ·rw [if_neg c8] at H
    have c8b0 := dF c8
    have c8b1 : decide (0 < x4_1.length) = false := dF (by omega)
    clear c8
    obtain rfl := sI H
    obtain ⟨Ao29, co29, eo29, _⟩ := Kd.z69 HO_4.out
    subst eo29
    go_wp2
    go_ret
    exact ⟨_, re, by exact rA HO_3.out, bl HB⟩
   rw [if_pos c8] at H
   have c8b0 := dT c8
   have c8b1 : decide (0 < x4_1.length) = true := dT (by omega)
   clear c8
   replace H := iN_ H
   obtain ⟨c9, H⟩ := H
   have c9b0 := dT c9
   have c9b1 : decide (0 < x4_1.length) = true := dT (by omega)
   clear c9
   replace H := iE_ H
   obtain ⟨c10b0, c10b1, H⟩ := H
   replace H := yB H
   obtain ⟨y537, Ny537, H⟩ := H
   replace H := iD_ H
   obtain ⟨c11b0, H⟩ := H
   replace H := iD_ H
   obtain ⟨c12b0, H⟩ := H
   obtain ⟨bq13, hbq13⟩ : ∃ b_ : Bool, b_ = (z1X false x3_1 (rd x4_1 0)) := ⟨_, rfl⟩
   replace H : (if bq13 = true then (zJ.l0 k1 l0 x3_1 y537) else ((xp.f l0 (rd x4_1 0)).bind fun t542 => (if y537.length + t542.length < 17592186044416 then (zJ.l0 k1 l0 (x3_1.set ((rd x4_1 0) : Int).toNat true) (y537 ++ t542)) else (none)))) = some r := by rw [← hbq13] at H; exact H
   have Nbq13 := aS hbq13
   clear hbq13
   by_cases c14 : bq13 = true
   ·subst c14
    rw [if_pos rfl] at H
    have H' := aS H
    clear H
    obtain ⟨Ao15, co15, eo15, _⟩ := Kd.z69 HO_4.out
    subst eo15
    have p536 : 0 ≤ (0 : Int) := (by omega)
    have q536 : 0 < (x4_1.length : Int) := oa
    obtain ⟨ad536, e536, hx536_0⟩ := Kd.zT (Kd.z4A HO_4.out).2.2 0 p536 q536
    cases e536
    have qi536 : (0 < x4_1.length) = True := eq_true (by omega)
    (try rw [show ((0 : Int)).toNat = 0 from rfl] at hx536_0)
    (try rw [Addr.add_zero'] at hx536_0)
    replace p536 := eq_true p536
    replace q536 := eq_true q536
    have q16 : (1 : Int) ≤ ((x4_1.length : Int) : Int) := oa
    obtain ⟨i016, hi016, _, hsz16, _⟩ := info_parts z3z
    have hcut16 := z6F (P := Tryz.prog) 42 3 .i64 Tryz.underlying42 hi016 1 hsz16 (some ad536) x4_1.length co15 1 (by omega) q16
    have hr16 := Kd.z9J (k := (1 : Int).toNat) HO_4.out (by omega)
    obtain ⟨A16, hA16⟩ : ∃ A1, A1 = (if co15 = (1 : Int).toNat then (some ad536) else ((some ad536) : Option Addr).map (·.add ((1 : Int).toNat * 1))) := ⟨_, rfl⟩
    obtain ⟨c16, hc16⟩ : ∃ c1, c1 = co15 - (1 : Int).toNat := ⟨_, rfl⟩
    have hy16 : y537.length = x4_1.length - (1 : Int).toNat := (by rw [Ny537.out, List.length_drop])
    rw [← Ny537.out] at hr16
    rw [← hy16, ← hA16, ← hc16] at hcut16
    replace hr16 : Kd.Q (Kd.int .i64) 3 wr w.heap.size (fun _ => True) (.slice A16 y537.length c16) y537 := (by rw [hA16, hc16, hy16]; exact hr16)
    have HE16 : Aside0 ((Value.slice A16 y537.length c16).ownBlock = (.slice (some ad536) x4_1.length co15 : Value).ownBlock) := ⟨by rw [hA16]; split <;> (cases ((some ad536) : Option Addr) <;> rfl)⟩
    clear hy16 hi016 hsz16 HO_4 hA16 hc16
    have HO539 := aS hr16
    clear hr16
    replace q16 := eq_true q16
    obtain ⟨Ao17, co17, eo17⟩ := Kd.zB HO_3.out
    subst eo17
    have p540 : 0 ≤ ((rd x4_1 0) : Int) := oa
    have q540 : (rd x4_1 0) < (x3_1.length : Int) := oa
    obtain ⟨ad540, e540, hx540_0⟩ := Kd.z1J (Kd.zz HO_3.out).2.2 (rd x4_1 0) p540 q540
    (try rw [← Nbq13.out] at hx540_0)
    cases e540
    replace p540 := eq_true p540
    replace q540 := eq_true q540
    go_wp2
    go_roundg k1
    case measure => have := HK1.out; omega
    case rel => exact ⟨(x3_1), (y537), H', ⟨by have := HK1.out; omega⟩, ⟨by exact rA HO_3.out⟩, ⟨by (with_reducible repeat (first | apply Kd.z23 | apply Kd.z25 | apply Kd.z3d)); exact HO539.out⟩, ⟨bl HB⟩⟩
   replace c14 := Bool.eq_false_iff.mpr c14
   subst c14
   rw [if_neg iN] at H
   obtain ⟨y541, Ny541⟩ := yE (x3_1.set ((rd x4_1 0) : Int).toNat true : List Bool)
   rw [← Ny541.out] at H
   replace H := bA H
   obtain ⟨t542, A19, H⟩ := H
   replace H := iN_ H
   obtain ⟨c20, H⟩ := H
   have LMc20 := aS c20
   clear c20
   obtain ⟨y545, Ny545⟩ := yE (y537 ++ t542 : List Int)
   rw [← Ny545.out] at H
   have H' := aS H
   clear H
   obtain ⟨Ao21, co21, eo21, _⟩ := Kd.z69 HO_4.out
   subst eo21
   have p536 : 0 ≤ (0 : Int) := (by omega)
   have q536 : 0 < (x4_1.length : Int) := oa
   obtain ⟨ad536, e536, hx536_0⟩ := Kd.zT (Kd.z4A HO_4.out).2.2 0 p536 q536
   cases e536
   have qi536 : (0 < x4_1.length) = True := eq_true (by omega)
   (try rw [show ((0 : Int)).toNat = 0 from rfl] at hx536_0)
   (try rw [Addr.add_zero'] at hx536_0)
   replace p536 := eq_true p536
   replace q536 := eq_true q536
   have q22 : (1 : Int) ≤ ((x4_1.length : Int) : Int) := oa
   obtain ⟨i022, hi022, _, hsz22, _⟩ := info_parts z3z
   have hcut22 := z6F (P := Tryz.prog) 42 3 .i64 Tryz.underlying42 hi022 1 hsz22 (some ad536) x4_1.length co21 1 (by omega) q22
   have hr22 := Kd.z9J (k := (1 : Int).toNat) HO_4.out (by omega)
   obtain ⟨A22, hA22⟩ : ∃ A1, A1 = (if co21 = (1 : Int).toNat then (some ad536) else ((some ad536) : Option Addr).map (·.add ((1 : Int).toNat * 1))) := ⟨_, rfl⟩
   obtain ⟨c22, hc22⟩ : ∃ c1, c1 = co21 - (1 : Int).toNat := ⟨_, rfl⟩
   have hy22 : y537.length = x4_1.length - (1 : Int).toNat := (by rw [Ny537.out, List.length_drop])
   rw [← Ny537.out] at hr22
   rw [← hy22, ← hA22, ← hc22] at hcut22
   replace hr22 : Kd.Q (Kd.int .i64) 3 wr w.heap.size (fun _ => True) (.slice A22 y537.length c22) y537 := (by rw [hA22, hc22, hy22]; exact hr22)
   have HE22 : Aside0 ((Value.slice A22 y537.length c22).ownBlock = (.slice (some ad536) x4_1.length co21 : Value).ownBlock) := ⟨by rw [hA22]; split <;> (cases ((some ad536) : Option Addr) <;> rfl)⟩
   clear hy22 hi022 hsz22 HO_4 hA22 hc22
   have HO539 := aS hr22
   clear hr22
   replace q22 := eq_true q22
   obtain ⟨Ao23, co23, eo23⟩ := Kd.zB HO_3.out
   subst eo23
   have p540 : 0 ≤ ((rd x4_1 0) : Int) := oa
   have q540 : (rd x4_1 0) < (x3_1.length : Int) := oa
   obtain ⟨ad540, e540, hx540_0⟩ := Kd.z1J (Kd.zz HO_3.out).2.2 (rd x4_1 0) p540 q540
   (try rw [← Nbq13.out] at hx540_0)
   cases e540
   replace p540 := eq_true p540
   replace q540 := eq_true q540
   have p18 : 0 ≤ ((rd x4_1 0) : Int) := oa
   have q18 : ((rd x4_1 0) : Int) < ((x3_1.length : Int) : Int) := oa
   obtain ⟨go18, co18, eo18, gb18, gl18, cl18, HG18⟩ := Kd.z0M HO_3.out (by omega)
   (first | cases eo18 | (injection eo18 with ea_ en_ ec_; (first | subst ea_ | (injection ea_ with ea_; subst ea_)); subst ec_; clear en_))
   have GB18 := aS gb18
   have GG18 := aS HG18
   clear gb18 gl18 HG18
   (first | simp only [add_plain] at hx540_0 | skip)
   obtain ⟨hx18_0, hf18_0⟩ := Kd.yx false HO_3.out ((rd x4_1 0) : Int) p18 q18
   replace p18 := eq_true p18
   replace q18 := eq_true q18
   have HP24 := Kd.z0q HO_3.out ((rd x4_1 0) : Int) true
   go_wp2_with (first | ((with_reducible refine xJ (t := 4) (p := 24) rfl ?_); refine xA (t := 4) (p := 24) (v := ?vo_w25) (w1 := (wr.setCell ⟨go18, ((rd x4_1 0) : Int).toNat, none⟩ (.bool true))) ?hg ?ho ?hn ?hr ?_; (case ho => rfl); (case hg => rfl); (case hn => rfl); (case hr => first | (go_simp; done) | (go_simp; rfl)); intro w25 hw; have hg : wr.grownBy w25 (some go18) := (by rw [hw]; exact HP24.2); have hp_ : Kd.R Kd.bool 4 w25 w.heap.size (fun _ => True) (.slice (some ⟨go18, 0, none⟩) x3_1.length co23) y541 := (by rw [hw, Ny541.out]; exact HP24.1); clear HP24; have n0_ := aS (hp_); have n1_ := aS (Kd.zbn (v := (.slice (some ⟨go18, 0, none⟩) x3_1.length co23)) (by (with_reducible repeat (first | apply Kd.z23 | apply Kd.z25 | apply Kd.z3d)); exact HO539.out) (Kd.z0I HO_3.out) (by decide) hg); have n2_ := aS ((by rw [hw]; exact zG (HB.out) GB18.out : Below w.heap.size w w25)); clear HO_3; clear HO539; clear HB; have HO_3 := n0_; have HO539 := n1_; have HB := n2_; clear n0_ n1_ n2_; clear hg hw hp_) | ((with_reducible refine zi (f := 122) rfl ?_); refine gl 28 Tryz.func122 #[.slice A0 l0.length c0, .int .i64 (rd x4_1 0)] ?_; (with_reducible refine (xp.calls _ _ l0 (rd x4_1 0) t542 _ ?side1 ?side2 A19.out).mono ?_); (case side1 => exact cb HR0 HB); (case side2 => exact HC0.out); rintro e w26 ⟨v543, rfl, ho0, hb⟩; refine ⟨_, rfl, ?_⟩; have n0_ := aS (Kd.zU (by exact rA HO_3.out) hb); have n1_ := aS (Kd.z9K (by (with_reducible repeat (first | apply Kd.z23 | apply Kd.z25 | apply Kd.z3d)); exact HO539.out) (Kd.yf ho0) hb); have n2_ := aS (Kd.zL (Kd.z2q ho0 (Kd.ze5 (by (with_reducible repeat (first | apply Kd.z23 | apply Kd.z25 | apply Kd.z3d)); exact HO539.out))) (zg (bl HB))); have n3_ := aS (bs_ (bl HB) hb); clear HO_3; clear HO539; clear HB; have HO_3 := n0_; have HO539 := n1_; have HO544 := n2_; have HB := n3_; clear n0_ n1_ n2_ n3_; clear hb ho0; obtain ⟨Ao28, co28, eo28⟩ := Kd.zB HO544.out; subst eo28) | ((with_reducible refine yV (b := .append) (xs := #[.tmp 25, .tmp 28]) rfl ?_); at_builtin; refine Kd.z5f (Kd.int .i64) (w0 := w) w.heap.size rfl (.tmp 25) (.tmp 28) 42 3 (.int .i64 0) 8 rfl Tryz.underlying42 z3z rfl (by decide) (by omega) (.slice A22 y537.length c22) y537 t542 _ _ _ (fun k_ => some k_ ≠ (.slice Ao28 t542.length co28 : Value).ownBlock) (fun _ => False) rfl rfl ?aO ?aR (fun _ _ h => h) (fun _ h => h.elim) ?aF ?aB ?aS ?aL ?_; (case aR => exact cA ((Kd.zz HO544.out).2.2)); (case aB => exact (bl HB)); (case aF => exact (fun k_ hk => Kd.z0F (Kd.z27 (by exact rA HO544.out)) k_ hk)); (case aO => exact (by (with_reducible repeat (first | apply Kd.z23 | apply Kd.z25 | apply Kd.z3d)); exact Kd.z4z HO539.out (fun _ hk => hk.2))); (case aS => exact (zg (bl HB))); (case aL => have := LMc20.out; omega); intro v546 w27 ho hb hg hat; rw [← Ny545.out] at ho; have n0_ := aS (Kd.z29 (by exact rA HO_3.out) (Kd.zbo (by (with_reducible repeat (first | apply Kd.z23 | apply Kd.z25 | apply Kd.z3d)); exact HO539.out)) (by decide) hg); have n1_ := aS (Kd.z3r (ok := (fun _ => True)) (by exact rA HO544.out) hg hat); have n2_ := aS (hb); have n3_ := aS (ho); clear HO_3; clear HO544; clear HB; clear HO539; have HO_3 := n0_; have HO544 := n1_; have HB := n2_; have HO547 := n3_; clear n0_ n1_ n2_ n3_; clear ho hb hg hat))
   go_roundg k1
   case measure => have := HK1.out; omega
   case rel => exact ⟨(y541), (y545), H', ⟨by have := HK1.out; omega⟩, ⟨by exact rA HO_3.out⟩, ⟨by (with_reducible repeat (first | apply Kd.z23 | apply Kd.z25 | apply Kd.z3d)); exact Kd.z4z HO547.out (fun _ hk => trivial)⟩, ⟨bl HB⟩⟩
def zA.l0 : Nat → List Int → List Bool → Int → Int → Option (List Int)
 | 0, _, _, _, _ => none
 | k + 1, x3, x7, x8, x9 => if x9 < x8 then (if 0 ≤ x9 then (if x9 < (x7.length : Int) then (if z1X false x7 x9 = true then (if x3.length < 17592186044416 then (zA.l0 k (x3 ++ [x9]) x7 x8 (wrap64 (x9 + 1))) else (none)) else (zA.l0 k x3 x7 x8 (wrap64 (x9 + 1)))) else (none)) else (none)) else (some x3)
def zA.f (k : Nat) (l0 : List (S63)) : Option (List Int) := (zJ.f k l0).bind fun t548 => (zA.l0 k ([] : List Int) t548 (t548.length : Int) 0)
theorem zA.calls (k : Nat) (A0 : Option Addr) (c0 : Nat) (l0 : List (S63)) (r : List Int) (w : World) (hr0 : Kd.C k63 w A0 l0.length l0) (hc0 : l0.length ≤ c0) (h : zA.f k l0 = some r) :
 Calls Tryz.prog 27 #[.slice A0 l0.length c0] w fun e w' => ∃ v0_ : Value, e = .returned (v0_) ∧ Kd.R (Kd.int .i64) 3 w' w.heap.size (fun _ => True) v0_ r ∧ Below w.heap.size w w' := by
 have HR0 := aS hr0
 have HC0 := aS hc0
 clear hr0 hc0
 have HB := hR w
 have H := h
 unfold zA.f at H
 clear h
 replace H := bA H
 obtain ⟨t548, A2, H⟩ := H
 have H' := aS H
 clear H
 go_enter Tryz.func27, Tryz.ntmps27
 go_wp2_with (first | ((with_reducible refine zi (f := 77) rfl ?_); refine gl 7 Tryz.func77 #[.slice A0 l0.length c0] ?_; (with_reducible refine (zJ.calls k _ _ l0 t548 _ ?side1 ?side2 A2.out).mono ?_); (case side1 => exact cA HR0.out); (case side2 => exact HC0.out); rintro e w3 ⟨v549, rfl, ho0, hb⟩; refine ⟨_, rfl, ?_⟩; have HO550 := aS (Kd.zL ho0 (zg (bl HB))); replace HB := hB_ HB hb; clear hb ho0; obtain ⟨Ao4, co4, eo4⟩ := Kd.zB HO550.out; subst eo4))
 go_loopg [3, 9] k (fun kq v3 v9 w' => ∃ (x3_1 : List Int) (x9_1 : Int), v9 = .int .i64 x9_1 ∧ Aside0 (zA.l0 kq x3_1 t548 (t548.length : Int) x9_1 = some r) ∧ Aside0 (kq ≤ k) ∧ Aside0 (Kd.R (Kd.int .i64) 3 w' w.heap.size (fun _ => True) v3 x3_1) ∧ Aside0 (Kd.R Kd.bool 4 w' w.heap.size (fun _ => True) (.slice Ao4 t548.length co4) t548) ∧ Aside0 (Below w.heap.size w w'))
 case atStart => exact ⟨(([] : List Int)), (0), rs, H', ⟨Nat.le_refl _⟩, ⟨by first | exact Kd.z0l _ _ _ _ _ | exact Kd.z2l _ _ _ _ _ | exact Kd.z2w _ _ _ _ _ | exact Kd.z2o _ _ _ _ _ | exact Kd.z2u _ _ _ _ _⟩, ⟨by exact rA HO550.out⟩, ⟨bl HB⟩⟩
 case round =>
  clear H'
  obtain ⟨x3_1, x9_1, rfl, HA, HK1, HO_3, HO_7, HB⟩ := hrel
  cases gk with
  | zero => exact absurd HA.out (by simp [zA.l0])
  | succ k1 =>
   have H := HA.out
   clear HA
   simp only [zA.l0] at H
   by_cases c5 : x9_1 < (t548.length : Int); rotate_left
   ·rw [if_neg c5] at H
    have c5b0 := dF c5
    clear c5
    obtain rfl := sI H
    go_wp2
    go_ret
    exact ⟨_, re, by exact rA HO_3.out, bl HB⟩
   rw [if_pos c5] at H
   have c5b0 := dT c5
   clear c5
   replace H := iD_ H
   obtain ⟨c6b0, H⟩ := H
   replace H := iD_ H
   obtain ⟨c7b0, H⟩ := H
   obtain ⟨bq8, hbq8⟩ : ∃ b_ : Bool, b_ = (z1X false t548 x9_1) := ⟨_, rfl⟩
   replace H : (if bq8 = true then (if x3_1.length < 17592186044416 then (zA.l0 k1 (x3_1 ++ [x9_1]) t548 (t548.length : Int) (wrap64 (x9_1 + 1))) else (none)) else (zA.l0 k1 x3_1 t548 (t548.length : Int) (wrap64 (x9_1 + 1)))) = some r := by rw [← hbq8] at H; exact H
   have Nbq8 := aS hbq8
   clear hbq8
   by_cases c9 : bq8 = true; rotate_left
   ·replace c9 := Bool.eq_false_iff.mpr c9
    subst c9
    rw [if_neg iN] at H
    have H' := aS H
    clear H
    have p551 : 0 ≤ (x9_1 : Int) := oa
    have q551 : x9_1 < (t548.length : Int) := oa
    obtain ⟨ad551, e551, hx551_0⟩ := Kd.z1J (Kd.zz HO_7.out).2.2 x9_1 p551 q551
    (try rw [← Nbq8.out] at hx551_0)
    cases e551
    replace p551 := eq_true p551
    replace q551 := eq_true q551
    go_wp2
    go_roundg k1
    case measure => have := HK1.out; omega
    case rel => exact ⟨(x3_1), (wrap64 (x9_1 + 1)), rs, H', ⟨by have := HK1.out; omega⟩, ⟨by exact rA HO_3.out⟩, ⟨by exact rA HO_7.out⟩, ⟨bl HB⟩⟩
   subst c9
   rw [if_pos rfl] at H
   replace H := iN_ H
   obtain ⟨c10, H⟩ := H
   have LMc10 := aS c10
   clear c10
   obtain ⟨y552, Ny552⟩ := yE (x3_1 ++ [x9_1] : List Int)
   rw [← Ny552.out] at H
   have H' := aS H
   clear H
   have p551 : 0 ≤ (x9_1 : Int) := oa
   have q551 : x9_1 < (t548.length : Int) := oa
   obtain ⟨ad551, e551, hx551_0⟩ := Kd.z1J (Kd.zz HO_7.out).2.2 x9_1 p551 q551
   (try rw [← Nbq8.out] at hx551_0)
   cases e551
   replace p551 := eq_true p551
   replace q551 := eq_true q551
   go_wp2_with (first | ((with_reducible refine yV (b := .append) (xs := #[.tmp 15, .tmp 17]) rfl ?_); at_builtin; refine Kd.z0C (Kd.int .i64) (w0 := w) w.heap.size rfl (.tmp 15) (.tmp 17) 42 3 (.int .i64 0) 8 rfl Tryz.underlying42 z3z rfl (by decide) (by omega) u3 x3_1 x9_1 [.int .i64 x9_1] (fun _ => True) (fun _ => False) rfl rfl ?aP (fun _ hk => hk.elim) ?aF ?aO ?aB ?aS ?aL ?_; (case aP => exact rfl); (case aB => exact (bl HB)); (case aF => exact (fun _ _ => trivial)); (case aO => exact (by exact rA HO_3.out)); (case aS => exact (zg (bl HB))); (case aL => have := LMc10.out; omega); intro v553 w11 ho hb hg hat; rw [← Ny552.out] at ho; replace HO_7 := aS (Kd.z29 (by exact rA HO_7.out) (Kd.z0I (by exact rA HO_3.out)) (by decide) hg); replace HB := aS (hb); have HO554 := aS (ho); clear HO_3; clear ho hb hg hat))
   go_roundg k1
   case measure => have := HK1.out; omega
   case rel => exact ⟨(y552), (wrap64 (x9_1 + 1)), rs, H', ⟨by have := HK1.out; omega⟩, ⟨by exact rA HO554.out⟩, ⟨by exact rA HO_7.out⟩, ⟨bl HB⟩⟩
end
end
section
section
attribute [local go_sem] yd zV
attribute [local go_sem] xf xg xD xE yI yJ xl xm
def zo.j0 : Nat → Int → List (S50) → List Int → Int → Bool → Option (Bool)
 | 0, _, _, _, _, _ => none
 | k + 1, x1, x5, x6, x7, x37 => if x37 = true then (if (x6.length : Int) = 0 then (if x7 = 2 then ((zv.f k).bind fun t567 => (some t567)) else (some false)) else (some false)) else (if x7 = 0 then (if 0 ≤ x1 then (if x1 < (x5.length : Int) then ((zA.f k ((z8 x5 x1).f4)).bind fun t569 => ((zR.f k x6 t569).bind fun t572 => (if t572 = true then ((zv.f k).bind fun t573 => (some t573)) else (some false)))) else (none)) else (none)) else (some false))
def zo.f (k : Nat) (l0 : List (S50)) (a1 : Int) : Option (Bool) := (yz.f k l0).bind fun t555 => ((yz.f k l0).bind fun t558 => ((zp.f k t558 a1).bind fun bt561 => ((yo.f k t555).bind fun t565 => (if t565 = true then (if a1 < 0 then (zo.j0 k a1 t555 bt561.1 bt561.2 true) else (zo.j0 k a1 t555 bt561.1 bt561.2 (decide (a1 ≥ (t555.length : Int))))) else (if (bt561.1.length : Int) = 0 then (if bt561.2 = 5 then ((zv.f k).bind fun t566 => (some t566)) else (some false)) else (some false))))))
theorem zo.calls (k : Nat) (A0 : Option Addr) (c0 : Nat) (l0 : List (S50)) (a1 : Int) (r : Bool) (w : World) (hG : GW w) (hr0 : Kd.C k50 w A0 l0.length l0) (hc0 : l0.length ≤ c0) (h : zo.f k l0 a1 = some r) :
 Calls Tryz.prog 8 #[.slice A0 l0.length c0, .int .i64 a1] w fun e w' => e = .returned (.bool r) ∧ Below w.heap.size w w' := by
 have HR0 := aS hr0
 have HC0 := aS hc0
 clear hr0 hc0
 have HG := aS hG
 clear hG
 have HB := hR w
 have H := h
 unfold zo.f at H
 clear h
 replace H := bA H
 obtain ⟨t555, A3, H⟩ := H
 replace H := bA H
 obtain ⟨t558, A4, H⟩ := H
 replace H := bS H
 obtain ⟨⟨t561, t562⟩, A50, H⟩ := H
 (try dsimp only at H)
 have A5 := aS A50
 clear A50
 replace H := bA H
 obtain ⟨t565, A6, H⟩ := H
 by_cases c7 : t565 = true
 focus
  subst c7
  rw [if_pos rfl] at H
  have HC8 := aS H
  clear H
  go_enter Tryz.func8, Tryz.ntmps8
  go_upto_region 5 with (first | ((with_reducible refine zi (f := 11) rfl ?_); refine gl 9 Tryz.func11 #[.slice A0 l0.length c0] ?_; (with_reducible refine (yz.calls k _ _ l0 t555 _ ?side1 ?side2 A3.out).mono ?_); (case side1 => exact cA HR0.out); (case side2 => exact HC0.out); rintro e w9 ⟨v556, rfl, ho0, hb⟩; refine ⟨_, rfl, ?_⟩; have HO557 := aS (Kd.zL ho0 (zg (bl HB))); replace HB := hB_ HB hb; clear hb ho0) | ((with_reducible refine zi (f := 11) rfl ?_); refine gl 12 Tryz.func11 #[.slice A0 l0.length c0] ?_; (with_reducible refine (yz.calls k _ _ l0 t558 _ ?side1 ?side2 A4.out).mono ?_); (case side1 => exact cb HR0 HB); (case side2 => exact HC0.out); rintro e w10 ⟨v559, rfl, ho0, hb⟩; refine ⟨_, rfl, ?_⟩; have HO560 := aS (Kd.zL (Kd.z2q ho0 (Kd.z27 (by exact rA HO557.out))) (zg (bl HB))); replace HO557 := aS (Kd.yP (by exact rA HO557.out) (Kd.yf ho0) hb); replace HB := hB_ HB hb; clear hb ho0; obtain ⟨Ao11, co11, eo11⟩ := Kd.zB HO560.out; subst eo11) | ((with_reducible refine zi (f := 25) rfl ?_); refine gl 14 Tryz.func25 #[.slice Ao11 t558.length co11, .int .i64 a1] ?_; (with_reducible refine (zp.calls k _ _ t558 a1 t561 t562 _ ?side1 ?side2 ?side3 A5.out).mono ?_); (case side1 => exact GW.below HG.out (bl HB)); (case side2 => exact cA ((Kd.zz HO560.out).2.2)); (case side3 => exact (Kd.zz HO560.out).2.1); rintro e w12 ⟨v563, rfl, ho0, hb⟩; refine ⟨_, rfl, ?_⟩; replace HO557 := aS (Kd.yP (by exact rA HO557.out) (Kd.yf ho0) hb); replace HO560 := aS (Kd.yP (by exact rA HO560.out) (Kd.yf ho0) hb); have HO564 := aS (Kd.zL ho0 (zg (bl HB))); replace HB := hB_ HB hb; clear hb ho0; obtain ⟨Ao13, co13, eo13⟩ := Kd.zB HO557.out; subst eo13) | ((with_reducible refine zi (f := 19) rfl ?_); refine gl 18 Tryz.func19 #[.slice Ao13 t555.length co13] ?_; (with_reducible refine (yo.calls k _ _ t555 true _ ?side1 ?side2 A6.out).mono ?_); (case side1 => exact cA ((Kd.zz HO557.out).2.2)); (case side2 => exact (Kd.zz HO557.out).2.1); rintro e w14 ⟨rfl, hb⟩; refine ⟨_, rfl, ?_⟩; replace HO557 := aS (Kd.zU (by exact rA HO557.out) hb); replace HO560 := aS (Kd.zU (by exact rA HO560.out) hb); replace HO564 := aS (Kd.zU (by exact rA HO564.out) hb); replace HB := hB_ HB hb; clear hb))
  (try simp only [Act.put, List.setIfInBounds_toArray, List.set_cons_zero, List.set_cons_succ])
  go_cut [37] (fun v37 wc => ∃ (kq : Nat) (x37_7 : Bool), v37 = .bool x37_7 ∧ Aside0 (zo.j0 kq a1 t555 t561 t562 x37_7 = some r) ∧ Aside0 (kq ≤ k) ∧ Aside0 (Kd.R k50 50 wc w.heap.size (fun k_ => some k_ ≠ (v563 : Value).ownBlock) (.slice Ao13 t555.length co13) t555) ∧ Aside0 (Kd.R (Kd.int .i64) 3 wc w.heap.size (fun _ => True) v563 t561) ∧ Aside0 (Below w.heap.size w wc))
  case first =>
   have H := HC8.out
   clear HC8
   by_cases c15 : a1 < 0
   ·rw [if_pos c15] at H
    have c15b0 := dT c15
    clear c15
    (first | rw [c15b0] | (simp only [yh, yQ]; rw [c15b0]) | skip)
    have H' := aS H
    clear H
    go_wp2
    go_meet
    case rel => exact ⟨_, (true), rs, H', ⟨by first | omega | exact Nat.le_refl _⟩, ⟨by exact rA (Kd.zw HO557.out (fun _ hk => hk.2))⟩, ⟨by exact rA HO564.out⟩, ⟨bl HB⟩⟩
   ·rw [if_neg c15] at H
    have c15b0 := dF c15
    clear c15
    (first | rw [c15b0] | (simp only [yh, yQ]; rw [c15b0]) | skip)
    have H' := aS H
    clear H
    go_wp2
    go_meet
    case rel => exact ⟨_, (decide (a1 ≥ (t555.length : Int))), rs, H', ⟨by first | omega | exact Nat.le_refl _⟩, ⟨by exact rA (Kd.zw HO557.out (fun _ hk => hk.2))⟩, ⟨by exact rA HO564.out⟩, ⟨bl HB⟩⟩
  case rest =>
   clear HC8
   obtain ⟨kq, x37_7, rfl, HA, HJ7, HO_5, HO_6, HB⟩ := hcut
   cases kq with
   | zero => exact absurd HA.out (by simp [zo.j0])
   | succ kj7 =>
    have H := HA.out
    clear HA
    simp only [zo.j0] at H
    by_cases c16 : x37_7 = true
    ·subst c16
     rw [if_pos rfl] at H
     by_cases c17 : (t561.length : Int) = 0; rotate_left
     ·rw [if_neg c17] at H
      have c17b0 := bF c17
      have c17b1 := nT c17
      have c17b2 : ¬ (t561 = []) := fun h_ => c17 (by rw [h_]; rfl)
      obtain rfl := sI H
      obtain ⟨Ao23, co23, eo23⟩ := Kd.zB HO_6.out
      subst eo23
      go_wp2
      go_ret
      exact ⟨re, bl HB⟩
     rw [if_pos c17] at H
     have c17b0 := bT c17
     have c17b1 := nF c17
     clear c17
     by_cases c18 : t562 = 2
     ·rw [if_pos c18] at H
      have c18b0 := bT c18
      have c18b1 := nF c18
      clear c18
      replace H := bA H
      obtain ⟨t567, A19, H⟩ := H
      obtain rfl := sI H
      obtain ⟨Ao20, co20, eo20⟩ := Kd.zB HO_6.out
      subst eo20
      go_wp2_with (first | (go_at_call 16; (with_reducible refine (zv.calls kj7  t567 _ ?side1 A19.out).mono ?_); (case side1 => exact GW.below HG.out (bl HB)); rintro e w21 ⟨rfl, hb⟩; replace HO_5 := aS (Kd.zU (by exact rA HO_5.out) hb); replace HO_6 := aS (Kd.zU (by exact rA HO_6.out) hb); replace HB := hB_ HB hb; clear hb))
      go_ret
      exact ⟨re, bl HB⟩
     ·rw [if_neg c18] at H
      have c18b0 := bF c18
      have c18b1 := nT c18
      obtain rfl := sI H
      obtain ⟨Ao22, co22, eo22⟩ := Kd.zB HO_6.out
      subst eo22
      go_wp2
      go_ret
      exact ⟨re, bl HB⟩
    replace c16 := Bool.eq_false_iff.mpr c16
    subst c16
    rw [if_neg iN] at H
    by_cases c24 : t562 = 0; rotate_left
    ·rw [if_neg c24] at H
     have c24b0 := bF c24
     have c24b1 := nT c24
     obtain rfl := sI H
     go_wp2
     go_ret
     exact ⟨re, bl HB⟩
    rw [if_pos c24] at H
    have c24b0 := bT c24
    have c24b1 := nF c24
    clear c24
    replace H := iD_ H
    obtain ⟨c25b0, H⟩ := H
    replace H := iD_ H
    obtain ⟨c26b0, H⟩ := H
    replace H := bA H
    obtain ⟨t569, A27, H⟩ := H
    replace H := bA H
    obtain ⟨t572, A28, H⟩ := H
    by_cases c29 : t572 = true; rotate_left
    ·replace c29 := Bool.eq_false_iff.mpr c29
     subst c29
     rw [if_neg iN] at H
     obtain rfl := sI H
     have p568 : 0 ≤ (a1 : Int) := oa
     have q568 : a1 < (t555.length : Int) := oa
     obtain ⟨ad568, A568_1, c568_1, A568_2, c568_2, A568_4, c568_4, e568, hx568_0, hx568_1, hx568_2, hx568_3, hx568_4, hl568_1, hi568_1, hl568_2, hi568_2, hl568_4, hi568_4⟩ := xW (Kd.zz HO_5.out).2.2 a1 p568 q568
     cases e568
     obtain ⟨ce568, hce568, hMe568, hcc568⟩ := Kd.zcb HO_5.out z50 a1 p568 (by first | exact q568 | exact oa | (have e_ := (Kd.zz HO_5.out).1; omega))
     obtain ⟨ve568_1, ve568_2, ve568_4, rfl, ge568_1, ge568_2, ge568_4⟩ := z5E hMe568
     have hv568_1 := hcc568 1 _ rfl
     rw [yH _ _ 1 (by omega)] at hv568_1
     replace hv568_1 := sI (hv568_1.symm.trans hx568_1)
     rw [hv568_1] at ge568_1
     have HL568_1 := aS (show Kd.R xC 115 _ _ _ _ ((z8 t555 a1).f1) from ge568_1)
     clear hv568_1 ge568_1
     have hv568_2 := hcc568 2 _ rfl
     rw [yH _ _ 2 (by omega)] at hv568_2
     replace hv568_2 := sI (hv568_2.symm.trans hx568_2)
     rw [hv568_2] at ge568_2
     have HL568_2 := aS (show Kd.R xC 115 _ _ _ _ ((z8 t555 a1).f2) from ge568_2)
     clear hv568_2 ge568_2
     have hv568_4 := hcc568 4 _ rfl
     rw [yH _ _ 4 (by omega)] at hv568_4
     replace hv568_4 := sI (hv568_4.symm.trans hx568_4)
     rw [hv568_4] at ge568_4
     have HL568_4 := aS (show Kd.R k63 63 _ _ _ _ ((z8 t555 a1).f4) from ge568_4)
     clear hv568_4 ge568_4
     clear hcc568 hce568
     have HR568_1 := aS hi568_1
     have HC568_1 := aS hl568_1
     clear hi568_1 hl568_1
     have HR568_2 := aS hi568_2
     have HC568_2 := aS hl568_2
     clear hi568_2 hl568_2
     have HR568_4 := aS hi568_4
     have HC568_4 := aS hl568_4
     clear hi568_4 hl568_4
     replace p568 := eq_true p568
     replace q568 := eq_true q568
     go_wp2_with (first | (go_at_call 27; (with_reducible refine (zA.calls kj7 _ _ ((z8 t555 a1).f4) t569 _ ?side1 ?side2 A27.out).mono ?_); (case side1 => repeat (first | exact (by repeat (first | (with_reducible exact HR568_4.out) | (with_reducible refine Kd.z02 ?_ _) | (with_reducible refine Kd.z03 ?_ _) | (with_reducible refine Kd.z0L ?_) | exact HR568_4.out)) | (with_reducible refine Kd.z02 ?_ _) | (with_reducible refine Kd.z03 ?_ _) | (with_reducible refine Kd.z0L ?_))); (case side2 => exact HC568_4.out); rintro e w35 ⟨v570, rfl, ho0, hb⟩; replace HO_5 := aS (Kd.yP (by exact rA HO_5.out) (Kd.yf ho0) hb); replace HL568_1 := aS (Kd.yP (by exact rA HL568_1.out) (Kd.yf ho0) hb); replace HL568_2 := aS (Kd.yP (by exact rA HL568_2.out) (Kd.yf ho0) hb); replace HL568_4 := aS (Kd.zU (by exact rA HL568_4.out) hb); have HO571 := aS (Kd.zL (Kd.z2q ho0 (Kd.z27 (by exact rA HO_6.out))) (zg (bl HB))); replace HO_6 := aS (Kd.yP (by exact rA HO_6.out) (Kd.yf ho0) hb); replace HR568_1 := aS (Kd.zK (by repeat (first | (with_reducible exact HR568_1.out) | (with_reducible refine Kd.z02 ?_ _) | (with_reducible refine Kd.z03 ?_ _) | (with_reducible refine Kd.z0L ?_) | exact HR568_1.out)) hb); replace HR568_2 := aS (Kd.zK (by repeat (first | (with_reducible exact HR568_2.out) | (with_reducible refine Kd.z02 ?_ _) | (with_reducible refine Kd.z03 ?_ _) | (with_reducible refine Kd.z0L ?_) | exact HR568_2.out)) hb); replace HR568_4 := aS (Kd.zK (by repeat (first | (with_reducible exact HR568_4.out) | (with_reducible refine Kd.z02 ?_ _) | (with_reducible refine Kd.z03 ?_ _) | (with_reducible refine Kd.z0L ?_) | exact HR568_4.out)) hb); replace HB := hB_ HB hb; clear hb ho0; obtain ⟨Ao36, co36, eo36⟩ := Kd.zB HO_6.out; subst eo36; obtain ⟨Ao37, co37, eo37⟩ := Kd.zB HO571.out; subst eo37) | (go_at_call 26; (with_reducible refine (zR.calls kj7 _ _ t561 _ _ t569 false _ ?side1 ?side2 ?side3 ?side4 A28.out).mono ?_); (case side1 => exact cA ((Kd.zz HO_6.out).2.2)); (case side2 => exact (Kd.zz HO_6.out).2.1); (case side3 => exact cA ((Kd.zz HO571.out).2.2)); (case side4 => exact (Kd.zz HO571.out).2.1); rintro e w' ⟨rfl, ⟨nd, rfl⟩⟩))
     go_ret
     exact ⟨re, bl HB⟩
    subst c29
    rw [if_pos rfl] at H
    replace H := bA H
    obtain ⟨t573, A30, H⟩ := H
    obtain rfl := sI H
    have p568 : 0 ≤ (a1 : Int) := oa
    have q568 : a1 < (t555.length : Int) := oa
    obtain ⟨ad568, A568_1, c568_1, A568_2, c568_2, A568_4, c568_4, e568, hx568_0, hx568_1, hx568_2, hx568_3, hx568_4, hl568_1, hi568_1, hl568_2, hi568_2, hl568_4, hi568_4⟩ := xW (Kd.zz HO_5.out).2.2 a1 p568 q568
    cases e568
    obtain ⟨ce568, hce568, hMe568, hcc568⟩ := Kd.zcb HO_5.out z50 a1 p568 (by first | exact q568 | exact oa | (have e_ := (Kd.zz HO_5.out).1; omega))
    obtain ⟨ve568_1, ve568_2, ve568_4, rfl, ge568_1, ge568_2, ge568_4⟩ := z5E hMe568
    have hv568_1 := hcc568 1 _ rfl
    rw [yH _ _ 1 (by omega)] at hv568_1
    replace hv568_1 := sI (hv568_1.symm.trans hx568_1)
    rw [hv568_1] at ge568_1
    have HL568_1 := aS (show Kd.R xC 115 _ _ _ _ ((z8 t555 a1).f1) from ge568_1)
    clear hv568_1 ge568_1
    have hv568_2 := hcc568 2 _ rfl
    rw [yH _ _ 2 (by omega)] at hv568_2
    replace hv568_2 := sI (hv568_2.symm.trans hx568_2)
    rw [hv568_2] at ge568_2
    have HL568_2 := aS (show Kd.R xC 115 _ _ _ _ ((z8 t555 a1).f2) from ge568_2)
    clear hv568_2 ge568_2
    have hv568_4 := hcc568 4 _ rfl
    rw [yH _ _ 4 (by omega)] at hv568_4
    replace hv568_4 := sI (hv568_4.symm.trans hx568_4)
    rw [hv568_4] at ge568_4
    have HL568_4 := aS (show Kd.R k63 63 _ _ _ _ ((z8 t555 a1).f4) from ge568_4)
    clear hv568_4 ge568_4
    clear hcc568 hce568
    have HR568_1 := aS hi568_1
    have HC568_1 := aS hl568_1
    clear hi568_1 hl568_1
    have HR568_2 := aS hi568_2
    have HC568_2 := aS hl568_2
    clear hi568_2 hl568_2
    have HR568_4 := aS hi568_4
    have HC568_4 := aS hl568_4
    clear hi568_4 hl568_4
    replace p568 := eq_true p568
    replace q568 := eq_true q568
    go_wp2_with (first | (go_at_call 27; (with_reducible refine (zA.calls kj7 _ _ ((z8 t555 a1).f4) t569 _ ?side1 ?side2 A27.out).mono ?_); (case side1 => repeat (first | exact (by repeat (first | (with_reducible exact HR568_4.out) | (with_reducible refine Kd.z02 ?_ _) | (with_reducible refine Kd.z03 ?_ _) | (with_reducible refine Kd.z0L ?_) | exact HR568_4.out)) | (with_reducible refine Kd.z02 ?_ _) | (with_reducible refine Kd.z03 ?_ _) | (with_reducible refine Kd.z0L ?_))); (case side2 => exact HC568_4.out); rintro e w31 ⟨v570, rfl, ho0, hb⟩; replace HO_5 := aS (Kd.yP (by exact rA HO_5.out) (Kd.yf ho0) hb); replace HL568_1 := aS (Kd.yP (by exact rA HL568_1.out) (Kd.yf ho0) hb); replace HL568_2 := aS (Kd.yP (by exact rA HL568_2.out) (Kd.yf ho0) hb); replace HL568_4 := aS (Kd.zU (by exact rA HL568_4.out) hb); have HO571 := aS (Kd.zL (Kd.z2q ho0 (Kd.z27 (by exact rA HO_6.out))) (zg (bl HB))); replace HO_6 := aS (Kd.yP (by exact rA HO_6.out) (Kd.yf ho0) hb); replace HR568_1 := aS (Kd.zK (by repeat (first | (with_reducible exact HR568_1.out) | (with_reducible refine Kd.z02 ?_ _) | (with_reducible refine Kd.z03 ?_ _) | (with_reducible refine Kd.z0L ?_) | exact HR568_1.out)) hb); replace HR568_2 := aS (Kd.zK (by repeat (first | (with_reducible exact HR568_2.out) | (with_reducible refine Kd.z02 ?_ _) | (with_reducible refine Kd.z03 ?_ _) | (with_reducible refine Kd.z0L ?_) | exact HR568_2.out)) hb); replace HR568_4 := aS (Kd.zK (by repeat (first | (with_reducible exact HR568_4.out) | (with_reducible refine Kd.z02 ?_ _) | (with_reducible refine Kd.z03 ?_ _) | (with_reducible refine Kd.z0L ?_) | exact HR568_4.out)) hb); replace HB := hB_ HB hb; clear hb ho0; obtain ⟨Ao32, co32, eo32⟩ := Kd.zB HO_6.out; subst eo32; obtain ⟨Ao33, co33, eo33⟩ := Kd.zB HO571.out; subst eo33) | (go_at_call 26; (with_reducible refine (zR.calls kj7 _ _ t561 _ _ t569 true _ ?side1 ?side2 ?side3 ?side4 A28.out).mono ?_); (case side1 => exact cA ((Kd.zz HO_6.out).2.2)); (case side2 => exact (Kd.zz HO_6.out).2.1); (case side3 => exact cA ((Kd.zz HO571.out).2.2)); (case side4 => exact (Kd.zz HO571.out).2.1); rintro e w' ⟨rfl, ⟨nd, rfl⟩⟩) | (go_at_call 16; (with_reducible refine (zv.calls kj7  t573 _ ?side1 A30.out).mono ?_); (case side1 => exact GW.below HG.out (bl HB)); rintro e w34 ⟨rfl, hb⟩; replace HO_5 := aS (Kd.zU (by exact rA HO_5.out) hb); replace HO_6 := aS (Kd.zU (by exact rA HO_6.out) hb); replace HL568_1 := aS (Kd.zU (by exact rA HL568_1.out) hb); replace HL568_2 := aS (Kd.zU (by exact rA HL568_2.out) hb); replace HL568_4 := aS (Kd.zU (by exact rA HL568_4.out) hb); replace HO571 := aS (Kd.zU (by exact rA HO571.out) hb); replace HR568_1 := aS (Kd.zK (by repeat (first | (with_reducible exact HR568_1.out) | (with_reducible refine Kd.z02 ?_ _) | (with_reducible refine Kd.z03 ?_ _) | (with_reducible refine Kd.z0L ?_) | exact HR568_1.out)) hb); replace HR568_2 := aS (Kd.zK (by repeat (first | (with_reducible exact HR568_2.out) | (with_reducible refine Kd.z02 ?_ _) | (with_reducible refine Kd.z03 ?_ _) | (with_reducible refine Kd.z0L ?_) | exact HR568_2.out)) hb); replace HR568_4 := aS (Kd.zK (by repeat (first | (with_reducible exact HR568_4.out) | (with_reducible refine Kd.z02 ?_ _) | (with_reducible refine Kd.z03 ?_ _) | (with_reducible refine Kd.z0L ?_) | exact HR568_4.out)) hb); replace HB := hB_ HB hb; clear hb))
    go_ret
    exact ⟨re, bl HB⟩
 focus
  replace c7 := Bool.eq_false_iff.mpr c7
  subst c7
  rw [if_neg iN] at H
  by_cases c38 : (t561.length : Int) = 0
  focus
   rw [if_pos c38] at H
   have c38b0 := bT c38
   have c38b1 := nF c38
   clear c38
   by_cases c39 : t562 = 5
   focus
    rw [if_pos c39] at H
    have c39b0 := bT c39
    have c39b1 := nF c39
    clear c39
    replace H := bA H
    obtain ⟨t566, A40, H⟩ := H
    obtain rfl := sI H
   rotate_left 1
   focus
    rw [if_neg c39] at H
    have c39b0 := bF c39
    have c39b1 := nT c39
    obtain rfl := sI H
   rotate_left 1
  rotate_left 2
  focus
   rw [if_neg c38] at H
   have c38b0 := bF c38
   have c38b1 := nT c38
   have c38b2 : ¬ (t561 = []) := fun h_ => c38 (by rw [h_]; rfl)
   obtain rfl := sI H
  rotate_left 1
 all_goals (go_enter Tryz.func8, Tryz.ntmps8)
 all_goals (go_wp2_with (first | ((with_reducible refine zi (f := 11) rfl ?_); refine gl 9 Tryz.func11 #[.slice A0 l0.length c0] ?_; (with_reducible refine (yz.calls k _ _ l0 t555 _ ?side1 ?side2 A3.out).mono ?_); (case side1 => exact cA HR0.out); (case side2 => exact HC0.out); rintro e wq1 ⟨v556, rfl, ho0, hb⟩; refine ⟨_, rfl, ?_⟩; have HO557 := aS (Kd.zL ho0 (zg (bl HB))); replace HB := hB_ HB hb; clear hb ho0) | ((with_reducible refine zi (f := 11) rfl ?_); refine gl 12 Tryz.func11 #[.slice A0 l0.length c0] ?_; (with_reducible refine (yz.calls k _ _ l0 t558 _ ?side1 ?side2 A4.out).mono ?_); (case side1 => exact cb HR0 HB); (case side2 => exact HC0.out); rintro e wq2 ⟨v559, rfl, ho0, hb⟩; refine ⟨_, rfl, ?_⟩; have HO560 := aS (Kd.zL (Kd.z2q ho0 (Kd.z27 (by exact rA HO557.out))) (zg (bl HB))); replace HO557 := aS (Kd.yP (by exact rA HO557.out) (Kd.yf ho0) hb); replace HB := hB_ HB hb; clear hb ho0; obtain ⟨Aoq1, coq1, eoq1⟩ := Kd.zB HO560.out; subst eoq1) | ((with_reducible refine zi (f := 25) rfl ?_); refine gl 14 Tryz.func25 #[.slice Aoq1 t558.length coq1, .int .i64 a1] ?_; (with_reducible refine (zp.calls k _ _ t558 a1 t561 t562 _ ?side1 ?side2 ?side3 A5.out).mono ?_); (case side1 => exact GW.below HG.out (bl HB)); (case side2 => exact cA ((Kd.zz HO560.out).2.2)); (case side3 => exact (Kd.zz HO560.out).2.1); rintro e wq3 ⟨v563, rfl, ho0, hb⟩; refine ⟨_, rfl, ?_⟩; replace HO557 := aS (Kd.yP (by exact rA HO557.out) (Kd.yf ho0) hb); replace HO560 := aS (Kd.yP (by exact rA HO560.out) (Kd.yf ho0) hb); have HO564 := aS (Kd.zL ho0 (zg (bl HB))); replace HB := hB_ HB hb; clear hb ho0; obtain ⟨Aoq2, coq2, eoq2⟩ := Kd.zB HO557.out; subst eoq2) | ((with_reducible refine zi (f := 19) rfl ?_); refine gl 18 Tryz.func19 #[.slice Aoq2 t555.length coq2] ?_; (with_reducible refine (yo.calls k _ _ t555 false _ ?side1 ?side2 A6.out).mono ?_); (case side1 => exact cA ((Kd.zz HO557.out).2.2)); (case side2 => exact (Kd.zz HO557.out).2.1); rintro e wq4 ⟨rfl, hb⟩; refine ⟨_, rfl, ?_⟩; replace HO557 := aS (Kd.zU (by exact rA HO557.out) hb); replace HO560 := aS (Kd.zU (by exact rA HO560.out) hb); replace HO564 := aS (Kd.zU (by exact rA HO564.out) hb); replace HB := hB_ HB hb; clear hb; obtain ⟨Aoq3, coq3, eoq3⟩ := Kd.zB HO564.out; subst eoq3) | (go_at_call 16; (with_reducible refine (zv.calls k  t566 _ ?side1 A40.out).mono ?_); (case side1 => exact GW.below HG.out (bl HB)); rintro e wq5 ⟨rfl, hb⟩; replace HO557 := aS (Kd.zU (by exact rA HO557.out) hb); replace HO560 := aS (Kd.zU (by exact rA HO560.out) hb); replace HO564 := aS (Kd.zU (by exact rA HO564.out) hb); replace HB := hB_ HB hb; clear hb)))
 ·go_ret
  exact ⟨re, bl HB⟩
 ·go_ret
  exact ⟨re, bl HB⟩
 ·go_ret
  exact ⟨re, bl HB⟩
end
end
def gB (u n : Int) : Bool := if u = 0 then decide (n = 0) else if u = 5 then decide (n = 0 ∨ n = 1) else if u = 6 then decide (-1 ≤ n ∧ n ≤ 8) else if u = 7 then decide (1 ≤ n ∧ n ≤ 8) else if u = 8 then decide (n = 1 ∨ n = -1) else true
theorem zbD (u n : Int) : ye.f u n = some (gB u n) := by
 unfold ye.f gB
 have e : ∀ a b : Int, (a == b) = decide (a = b) := fun a b => rfl
 simp only [e]
 by_cases h0 : u = 0
 ·rw [if_pos h0, if_pos h0]
 rw [if_neg h0, if_neg h0]
 by_cases h5 : u = 5
 ·rw [if_pos h5, if_pos h5]
  by_cases h : n = 0
  ·rw [if_pos h, dT (.inl h)]
  ·rw [if_neg h]; congr 1; exact decide_eq_decide.2 (by omega)
 rw [if_neg h5, if_neg h5]
 by_cases h6 : u = 6
 ·rw [if_pos h6, if_pos h6]
  by_cases h : n ≥ -1
  ·rw [if_pos h]; congr 1; exact decide_eq_decide.2 (by omega)
  ·rw [if_neg h, dF (by omega)]
 rw [if_neg h6, if_neg h6]
 by_cases h7 : u = 7
 ·rw [if_pos h7, if_pos h7]
  by_cases h : n ≥ 1
  ·rw [if_pos h]; congr 1; exact decide_eq_decide.2 (by omega)
  ·rw [if_neg h, dF (by omega)]
 rw [if_neg h7, if_neg h7]
 by_cases h8 : u = 8
 ·rw [if_pos h8, if_pos h8]
  by_cases h : n = 1
  ·rw [if_pos h, dT (.inl h)]
  ·rw [if_neg h]; congr 1; exact decide_eq_decide.2 (by omega)
 rw [if_neg h8, if_neg h8]
def z5k (op s f lo hi : Int) : Prop := ∀ i : Int, okF s i op lo hi = gB f i
theorem zd0 (op lo hi : Int) : z5k op 0 0 lo hi := fun i => rfl
theorem zaH {op s f lo hi : Int} (h1 : s ≠ 0) (h2 : s ≠ 3) (h3 : f ≠ 0) (h5 : f ≠ 5) (h6 : f ≠ 6) (h7 : f ≠ 7) (h8 : f ≠ 8) : z5k op s f lo hi := fun i => by
 unfold okF gB
 rw [if_neg h1, if_neg h2, if_neg h3, if_neg h5, if_neg h6, if_neg h7, if_neg h8]
theorem z3B {op f lo hi : Int} (h : ∀ i : Int, (if i < lo then false else if i > hi then false else if op = 19 then !decide (i = 0) else true) = gB f i) : z5k op 3 f lo hi := fun i => by
 unfold okF
 rw [if_neg (by decide), if_pos rfl]
 exact h i
theorem z7U {op lo hi : Int} (h : op ≠ 19) (i : Int) : (if i < lo then false else if i > hi then false else if op = 19 then !decide (i = 0) else true) = decide (lo ≤ i ∧ i ≤ hi) := by
 rw [if_neg h]
 by_cases h1 : i < lo
 ·rw [if_pos h1, dF (by omega)]
 rw [if_neg h1]
 by_cases h2 : i > hi
 ·rw [if_pos h2, dF (by omega)]
 rw [if_neg h2, dT (by omega)]
theorem zd1 {op : Int} (h : op ≠ 19) : z5k op 3 5 0 1 := z3B fun i => by
 rw [z7U h]; exact decide_eq_decide.2 (by omega)
theorem zd2 {op : Int} (h : op ≠ 19) : z5k op 3 6 (-1) 8 := z3B fun i => by
 rw [z7U h]; exact decide_eq_decide.2 (by omega)
theorem zd3 {op : Int} (h : op ≠ 19) : z5k op 3 7 1 8 := z3B fun i => by
 rw [z7U h]; exact decide_eq_decide.2 (by omega)
theorem zd4 : z5k 19 3 8 (-1) 1 := z3B fun i => by
 show _ = decide (i = 1 ∨ i = -1)
 by_cases h1 : i < -1
 ·rw [if_pos h1, dF (by omega)]
 rw [if_neg h1]
 by_cases h2 : i > 1
 ·rw [if_pos h2, dF (by omega)]
 rw [if_neg h2, if_pos rfl]
 by_cases h3 : i = 0
 ·rw [dT h3, dF (by omega)]; rfl
 ·rw [dF h3, dT (by omega)]; rfl
theorem zaI {n : Int} (h1 : 1 ≤ n) (h2 : n < 27) : n = 1 ∨ n = 2 ∨ n = 3 ∨ n = 4 ∨ n = 5 ∨ n = 6 ∨ n = 7 ∨ n = 8 ∨ n = 9 ∨ n = 10 ∨ n = 11 ∨ n = 12 ∨ n = 13 ∨ n = 14 ∨ n = 15 ∨ n = 16 ∨ n = 17 ∨ n = 18 ∨ n = 19 ∨ n = 20 ∨ n = 21 ∨ n = 22 ∨ n = 23 ∨ n = 24 ∨ n = 25 ∨ n = 26 := by omega
def z4d (op s f : Int) (j : Nat) : Prop :=
 (s = 1 ∧ f = 1) ∨ (s = 2 ∧ f = 2) ∨ (s = 7 ∧ f = 3 ∧ j = 1) ∨ (s = 6 ∧ f = 4 ∧ j = 1 ∧ op = 26) ∨ (s = 4 ∧ f = 4 ∧ j = 2 ∧ op = 25) ∨ (s = 5 ∧ f = 4 ∧ j = 3 ∧ op = 25) ∨ ((s = 0 ∨ s = 3) ∧ (f = 0 ∨ 5 ≤ f))
theorem z9r {n : Int} (h1 : 1 ≤ n) (h2 : n < 27) : ∃ nm s1 s2 s3 s4 s5 s6 nm2 f1 f2 f3, xP.f n = some (nm, s1, s2, s3, s4, s5, s6, true) ∧ yr.f n = some (nm2, f1, f2, f3, s4, true) ∧
 (z5k n s1 f1 s5 s6 ∧ z5k n s2 f2 s5 s6 ∧ z5k n s3 f3 s5 s6) ∧ (z4d n s1 f1 1 ∧ z4d n s2 f2 2 ∧ z4d n s3 f3 3) ∧ (n = 25 → f1 = 3) := by
 rcases zaI h1 h2 with rfl | rfl | rfl | rfl | rfl | rfl | rfl | rfl | rfl | rfl | rfl | rfl | rfl | rfl | rfl | rfl | rfl | rfl | rfl | rfl | rfl | rfl | rfl | rfl | rfl | rfl
 all_goals refine ⟨_, _, _, _, _, _, _, _, _, _, _, rfl, rfl, ⟨?_, ?_, ?_⟩, ⟨?_, ?_, ?_⟩, by decide⟩
 all_goals first
  | exact zd0 _ _ _
  | exact zaH (by decide) (by decide) (by decide) (by decide) (by decide) (by decide) (by decide)
  | exact zd1 (by decide)
  | exact zd2 (by decide)
  | exact zd3 (by decide)
  | exact zd4
  | (unfold z4d; decide)
theorem z9q {n : Int} (h : n < 1 ∨ 27 ≤ n) : (∃ nm s1 s2 s3 s4 s5 s6, xP.f n = some (nm, s1, s2, s3, s4, s5, s6, false)) ∧ ∃ nm2 f1 f2 f3 f4, yr.f n = some (nm2, f1, f2, f3, f4, false) := by
 constructor
 ·unfold xP.f
  rw [if_neg (by omega)]
  exact ⟨_, _, _, _, _, _, _, rfl⟩
 ·unfold yr.f xe.f
  rw [Option.bind_some]
  by_cases h1 : n < 1
  ·rw [if_pos h1]; exact ⟨_, _, _, _, _, rfl⟩
  ·rw [if_neg h1, if_pos (show n ≥ _ from by show (27 : Int) ≤ n; omega)]; exact ⟨_, _, _, _, _, rfl⟩
theorem z4T {slots m n : Int} (h1 : 1 ≤ slots) (h2 : slots ≤ 8192) (m0 : 0 ≤ m) (m1 : m ≤ 100000) : okR slots m n = (decide (0 ≤ n) && (decide (n ≤ slots) && decide (m ≤ wrap64 (slots - n)))) := by
 have w1 : wrap64 (slots - m) = slots - m := by unfold wrap64; omega
 unfold okR
 rw [w1]
 by_cases a : n < 0
 ·rw [if_pos a, dF (by omega), Bool.false_and]
 rw [if_neg a, dT (show 0 ≤ n by omega), Bool.true_and]
 by_cases b : n ≤ slots
 ·have w2 : wrap64 (slots - n) = slots - n := by unfold wrap64; omega
  rw [w2, dT b, Bool.true_and]
  by_cases c : n > slots - m
  ·rw [if_pos c, dF (by omega)]
  ·rw [if_neg c, dT (by omega)]
 ·rw [dF b, Bool.false_and, if_pos (by omega)]
theorem zbW {slots n : Int} (h1 : 1 ≤ slots) (h2 : slots ≤ 8192) : okR slots 1 n = (decide (0 ≤ n) && decide (n < slots)) := by
 have w1 : wrap64 (slots - 1) = slots - 1 := by unfold wrap64; omega
 unfold okR
 rw [w1]
 by_cases a : n < 0
 ·rw [if_pos a, dF (by omega), Bool.false_and]
 rw [if_neg a, dT (show 0 ≤ n by omega), Bool.true_and]
 by_cases c : n > slots - 1
 ·rw [if_pos c, dF (by omega)]
 ·rw [if_neg c, dT (by omega)]
theorem z7I {n b : Int} : (if n < 0 then false else if n ≥ b then false else true) = (decide (0 ≤ n) && decide (n < b)) := by
 by_cases a : n < 0
 ·rw [if_pos a, dF (by omega), Bool.false_and]
 rw [if_neg a, dT (show 0 ≤ n by omega), Bool.true_and]
 by_cases c : n ≥ b
 ·rw [if_pos c, dF (by omega)]
 ·rw [if_neg c, dT (by omega)]
def z3I (l : List S50) : Prop := ∀ i : Int, 0 ≤ i → i < (l.length : Int) → z3p (z8 l i) = true
def zaE (l : List S50) (a1 op i1 : Int) (j : Nat) : Int := if j = 1 then knA l a1 op else if j = 2 then knB l a1 op i1 else knC l a1 op i1
theorem z5a {op s f : Int} {j : Nat} (l : List S50) (a1 i1 n : Int) (h : z4d op s f j) (hl : z3I l) (a0 : 0 ≤ a1) (a2 : a1 < (l.length : Int)) (h1 : 1 ≤ (z8 l a1).f3) (h2 : (z8 l a1).f3 ≤ 8192) (hi : op = 25 → j ≠ 1 → 0 ≤ i1 ∧ i1 < a1) :
 okT l a1 i1 s n = some (thR f n (zaE l a1 op i1 j) a1 (z8 l a1).f3 ((z8 l a1).f4.length : Int)) := by
 have sm := z0X.1 (hl a1 a0 a2)
 unfold okT thR
 rcases h with ⟨rfl, rfl⟩ | ⟨rfl, rfl⟩ | ⟨rfl, rfl, rfl⟩ | ⟨rfl, rfl, rfl, rfl⟩ | ⟨rfl, rfl, rfl, rfl⟩ | ⟨rfl, rfl, rfl, rfl⟩ | ⟨hs, hf⟩
 ·rw [if_pos rfl, if_pos rfl, zbW h1 h2]
 ·rw [z7I, if_neg (by decide), if_neg (by decide), if_neg (by decide), if_neg (by decide), if_pos rfl, if_neg (by decide), if_pos rfl]
 ·rw [z7I, z7I, if_neg (by decide), if_neg (by decide), if_neg (by decide), if_neg (by decide), if_neg (by decide), if_pos rfl, if_neg (by decide), if_neg (by decide), if_pos rfl]
 ·rw [if_neg (by decide), if_pos rfl, if_neg (by decide), if_neg (by decide), if_neg (by decide), if_pos rfl, z4T h1 h2 (by omega) (by omega)]
  rfl
 ·have hb := hi rfl (by decide)
  have sm2 := z0X.1 (hl i1 hb.1 (by omega))
  have e : zaE l a1 25 i1 2 = ((z8 l i1).f1.length : Int) := by
   show knB l a1 25 i1 = _
   unfold knB
   rw [if_pos ⟨rfl, hb.1, hb.2⟩]
  rw [if_neg (by decide), if_neg (by decide), if_pos rfl, if_pos hb.1, if_pos (by omega), if_neg (by decide), if_neg (by decide), if_neg (by decide), if_pos rfl, z4T h1 h2 (by omega) (by omega), e]
 ·have hb := hi rfl (by decide)
  have sm2 := z0X.1 (hl i1 hb.1 (by omega))
  have e : zaE l a1 25 i1 3 = ((z8 l i1).f2.length : Int) := by
   show knC l a1 25 i1 = _
   unfold knC
   rw [if_pos ⟨rfl, hb.1, hb.2⟩]
  rw [if_neg (by decide), if_neg (by decide), if_neg (by decide), if_pos rfl, if_pos hb.1, if_pos (by omega), if_neg (by decide), if_neg (by decide), if_neg (by decide), if_pos rfl, z4T h1 h2 (by omega) (by omega), e]
 ·have f1 : f ≠ 1 ∧ f ≠ 2 ∧ f ≠ 3 ∧ f ≠ 4 := by omega
  rw [if_neg (by omega), if_neg (by omega), if_neg (by omega), if_neg (by omega), if_neg (by omega), if_neg (by omega), if_neg f1.1, if_neg f1.2.1, if_neg f1.2.2.1, if_neg f1.2.2.2]
end Go.Proofs.QP

