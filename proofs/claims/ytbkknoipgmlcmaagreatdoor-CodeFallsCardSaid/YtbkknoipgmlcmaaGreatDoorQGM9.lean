import Derived.Test.YtbkknoipgmlcmaaGreatDoorQGM8
set_option linter.all false
set_option maxHeartbeats 8000000
set_option maxRecDepth 100000
namespace Go.Proofs.QP
open Go.RowKit Go.Proofs.PW Go.Proofs.PL Go.Proofs.PM Go.Proofs.FX
section
attribute [local go_sem] yd zV
attribute [local go_sem] xf xg xD xE yI yJ xl xm
def zP.l0 : Nat → List Int → List Int → List Int → Int → Int → Option (List Int)
 | 0, _, _, _, _, _ => none
 | k + 1, x0, x1, x5, x6, x7 => if x7 < (x0.length : Int) then (if 0 ≤ x7 then ((yM.f x1 x7).bind fun t262 => (if x7 < (x5.length : Int) then (zP.l0 k x0 x1 (x5.set (x7 : Int).toNat ((IntKind.u64.wrap ((IntKind.u64.wrap ((IntKind.u64.wrap ((IntKind.u64.wrap (rd x0 x7)) + 4294967296)) - t262)) - x6)) % 4294967296)) (IntKind.u64.wrap (1 - ((IntKind.u64.wrap ((IntKind.u64.wrap ((IntKind.u64.wrap ((IntKind.u64.wrap (rd x0 x7)) + 4294967296)) - t262)) - x6)) / 4294967296))) (wrap64 (x7 + 1))) else (none))) else (none)) else ((zx.f k x5).bind fun t264 => (some t264))
def zP.f (k : Nat) (l0 : List Int) (l1 : List Int) : Option (List Int) := if 0 ≤ (l0.length : Int) then (if ((l0.length : Int) : Int).toNat ≤ 70368744177664 then (zP.l0 k l0 l1 (List.replicate ((l0.length : Int) : Int).toNat 0) 0 0) else (none)) else (none)
theorem zP.calls (k : Nat) (A0 : Option Addr) (c0 : Nat) (l0 : List Int) (A1 : Option Addr) (c1 : Nat) (l1 : List Int) (r : List Int) (w : World) (hr0 : Kd.C (Kd.int .u32) w A0 l0.length l0) (hc0 : l0.length ≤ c0) (hr1 : Kd.C (Kd.int .u32) w A1 l1.length l1) (hc1 : l1.length ≤ c1) (h : zP.f k l0 l1 = some r) :
 Calls Tryz.prog 181 #[.slice A0 l0.length c0, .slice A1 l1.length c1] w fun e w' => ∃ v0_ : Value, e = .returned (v0_) ∧ Kd.R (Kd.int .u32) 145 w' w.heap.size (fun _ => True) v0_ r ∧ Below w.heap.size w w' := by
 have HR0 := aS hr0
 have HC0 := aS hc0
 clear hr0 hc0
 have HR1 := aS hr1
 have HC1 := aS hc1
 clear hr1 hc1
 have HB := hR w
 have H := h
 unfold zP.f at H
 clear h
 replace H := iE_ H
 obtain ⟨c3b0, c3b1, H⟩ := H
 replace H := iE_ H
 obtain ⟨c4b0, c4b1, H⟩ := H
 obtain ⟨y258, Ny258⟩ := yE (List.replicate ((l0.length : Int) : Int).toNat 0 : List Int)
 rw [← Ny258.out] at H
 have H' := aS H
 clear H
 go_enter Tryz.func181, Tryz.ntmps181
 go_wp2_with (first | ((with_reducible refine zq (N := 11) rfl ?_); refine Kd.z1w (Kd.int .u32) _ 145 rfl (N := 11) rfl 59 _ _ rfl (l0.length : Int) rfl rfl Tryz.underlying59 (.int .u32 0) 4 xR rfl (by decide) (by omega) 0 (ok := fun _ => True) (okp := fun _ => True) rfl (fun _ hk => hk) trivial (oa) (Nat.le_trans (Nat.mul_le_mul_right _ (oa : (l0.length : Int).toNat ≤ 70368744177664)) (by omega)) (Below.refl _ _) (Nat.le_refl _) ?_; intro v259 w5 ho6 hb hg_ hnew_; clear hg_ hnew_; (first | rw [← Ny258.out] at ho6 | (simp only [Int.reduceToNat] at ho6; rw [← Ny258.out] at ho6)); have HO260 := aS (Kd.zL ho6 (zg (bl HB))); replace HB := hB_ HB hb; clear hb ho6))
 repeat (go_quiet (first | ((with_reducible refine zq (N := 11) rfl ?_); refine Kd.z1w (Kd.int .u32) _ 145 rfl (N := 11) rfl 59 _ _ rfl (l0.length : Int) rfl rfl Tryz.underlying59 (.int .u32 0) 4 xR rfl (by decide) (by omega) 0 (ok := fun _ => True) (okp := fun _ => True) rfl (fun _ hk => hk) trivial (oa) (Nat.le_trans (Nat.mul_le_mul_right _ (oa : (l0.length : Int).toNat ≤ 70368744177664)) (by omega)) (Below.refl _ _) (Nat.le_refl _) ?_; intro v259 w5 ho6 hb hg_ hnew_; clear hg_ hnew_; (first | rw [← Ny258.out] at ho6 | (simp only [Int.reduceToNat] at ho6; rw [← Ny258.out] at ho6)); have HO260 := aS (Kd.zL ho6 (zg (bl HB))); replace HB := hB_ HB hb; clear hb ho6)); try go_wp2_with (first | ((with_reducible refine zq (N := 11) rfl ?_); refine Kd.z1w (Kd.int .u32) _ 145 rfl (N := 11) rfl 59 _ _ rfl (l0.length : Int) rfl rfl Tryz.underlying59 (.int .u32 0) 4 xR rfl (by decide) (by omega) 0 (ok := fun _ => True) (okp := fun _ => True) rfl (fun _ hk => hk) trivial (oa) (Nat.le_trans (Nat.mul_le_mul_right _ (oa : (l0.length : Int).toNat ≤ 70368744177664)) (by omega)) (Below.refl _ _) (Nat.le_refl _) ?_; intro v259 w5 ho6 hb hg_ hnew_; clear hg_ hnew_; (first | rw [← Ny258.out] at ho6 | (simp only [Int.reduceToNat] at ho6; rw [← Ny258.out] at ho6)); have HO260 := aS (Kd.zL ho6 (zg (bl HB))); replace HB := hB_ HB hb; clear hb ho6)))
 go_loopg [6, 7] k (fun kq v6 v7 w' => ∃ (x5_1 : List Int) (x6_1 : Int) (x7_1 : Int), v6 = .int .u64 x6_1 ∧ v7 = .int .i64 x7_1 ∧ Aside0 (zP.l0 kq l0 l1 x5_1 x6_1 x7_1 = some r) ∧ Aside0 (kq ≤ k) ∧ Aside0 (Kd.R (Kd.int .u32) 145 w' w.heap.size (fun _ => True) v259 x5_1) ∧ Aside0 (Below w.heap.size w w'))
 case atStart => exact ⟨(y258), (0), (0), rs, rs, H', ⟨Nat.le_refl _⟩, ⟨by exact rA HO260.out⟩, ⟨bl HB⟩⟩
 case round =>
  clear H'
  obtain ⟨x5_1, x6_1, x7_1, rfl, rfl, HA, HK1, HO_5, HB⟩ := hrel
  cases gk with
  | zero => exact absurd HA.out (by simp [zP.l0])
  | succ k1 =>
   have H := HA.out
   clear HA
   simp only [zP.l0] at H
   by_cases c7 : x7_1 < (l0.length : Int)
   focus
    rw [if_pos c7] at H
    have c7b0 := dT c7
    clear c7
    replace H := iD_ H
    obtain ⟨c8b0, H⟩ := H
    replace H := bA H
    obtain ⟨t262, A9, H⟩ := H
    replace H := iD_ H
    obtain ⟨c10b0, H⟩ := H
    obtain ⟨y263, Ny263⟩ := yE (x5_1.set (x7_1 : Int).toNat ((IntKind.u64.wrap ((IntKind.u64.wrap ((IntKind.u64.wrap ((IntKind.u64.wrap (rd l0 x7_1)) + 4294967296)) - t262)) - x6_1)) % 4294967296) : List Int)
    rw [← Ny263.out] at H
    have H' := aS H
    clear H
    obtain ⟨ad261, e261, hx261_0⟩ := Kd.zT HR0.out x7_1 oa oa
    cases e261
    replace hx261_0 := xb HB hx261_0
    have p261 : (0 ≤ (x7_1 : Int)) = True := tO
    have q261 : (x7_1 < (l0.length : Int)) = True := tO
   rotate_left 1
   focus
    rw [if_neg c7] at H
    have c7b0 := dF c7
    clear c7
    replace H := bA H
    obtain ⟨t264, A14, H⟩ := H
    obtain rfl := sI H
    obtain ⟨Ao15, co15, eo15⟩ := Kd.zB HO_5.out
    subst eo15
   rotate_left 1
   all_goals (go_wp2_with (first | (go_at_call 213; (with_reducible refine (yM.calls _ _ l1 x7_1 t262 _ ?side1 ?side2 A9.out).mono ?_); (case side1 => exact cb HR1 HB); (case side2 => exact HC1.out); rintro e w' ⟨rfl, ⟨nd, rfl⟩⟩; (try first | exact ⟨rfl, _, World.drewN_drewN _ _ _⟩ | exact ⟨rfl, _, Eq.trans (World.drewN_drewN _ _ _) (congrArg (World.drewN _) (Nat.add_assoc _ _ _))⟩); have p11 : 0 ≤ (x7_1 : Int) := oa; have q11 : (x7_1 : Int) < ((x5_1.length : Int) : Int) := oa; obtain ⟨go11, coq1, eoq1, gb11, gl11, cl11, HG11⟩ := Kd.z0M HO_5.out (by omega); (first | cases eoq1 | (injection eoq1 with ea_ en_ ec_; (first | subst ea_ | (injection ea_ with ea_; subst ea_)); subst ec_; clear en_)); have GB11 := aS gb11; have GG11 := aS HG11; clear gb11 gl11 HG11; obtain ⟨hx11_0, hf11_0⟩ := Kd.yx 0 HO_5.out (x7_1 : Int) p11 q11; replace p11 := eq_true p11; replace q11 := eq_true q11; obtain ⟨hy12_, hz12_⟩ := Kd.yx 0 HO_5.out (x7_1 : Int) (oa) (oa); have HP12 := Kd.z0q HO_5.out (x7_1 : Int) ((IntKind.u64.wrap ((IntKind.u64.wrap ((IntKind.u64.wrap ((IntKind.u64.wrap (rd l0 x7_1)) + 4294967296)) - t262)) - x6_1)) % 4294967296)) | ((with_reducible refine xJ (t := 145) (p := 34) rfl ?_); (try (rw [z3k wr]; generalize hq_ : World.drewN wr _ = wr; replace HO_5 := aS (Kd.zcA hq_ HO_5.out); replace HB := aS (z4E hq_ HB.out); clear hq_; (try (obtain ⟨hy12_, hz12_⟩ := Kd.yx 0 HO_5.out (x7_1 : Int) (oa) (oa))); (try (have HP12 := Kd.z0q HO_5.out (x7_1 : Int) ((IntKind.u64.wrap ((IntKind.u64.wrap ((IntKind.u64.wrap ((IntKind.u64.wrap (rd l0 x7_1)) + 4294967296)) - t262)) - x6_1)) % 4294967296))))); refine xA (t := 145) (p := 34) (v := ?vo_w13) (w1 := (wr.setCell ⟨go11, (x7_1 : Int).toNat, none⟩ (.int .u32 ((IntKind.u64.wrap ((IntKind.u64.wrap ((IntKind.u64.wrap ((IntKind.u64.wrap (rd l0 x7_1)) + 4294967296)) - t262)) - x6_1)) % 4294967296)))) ?hg ?ho ?hn ?hr ?_; (case ho => rfl); (case hg => rfl); (case hn => rfl); (case hr => first | (go_simp; done) | (go_simp; rfl)); intro wq1 hw; have hg : wr.grownBy wq1 (some go11) := (by rw [hw]; exact HP12.2); have hp_ : Kd.R (Kd.int .u32) 145 wq1 w.heap.size (fun _ => True) (.slice (some ⟨go11, 0, none⟩) x5_1.length coq1) y263 := (by rw [hw, Ny263.out]; exact HP12.1); clear HP12; replace HO_5 := aS (hp_); replace HB := aS ((by rw [hw]; exact zG (HB.out) GB11.out : Below w.heap.size w wq1)); clear hg hw hp_) | (go_at_call 150; (with_reducible refine (zx.calls k1 (fun k_ => some k_ = (.slice Ao15 x5_1.length co15 : Value).ownBlock) (.slice Ao15 x5_1.length co15) x5_1 t264 w _ ?side1 ?side2 A14.out).mono ?_); (case side1 => exact bl HB); (case side2 => exact Kd.z0Q rfl HO_5.out); rintro e wq1 ⟨v265, rfl, ho0, hb, hkp⟩; have HO266 := aS (Kd.zw (ok' := fun k_ => True) ho0 (fun k_ hk_ => trivial)); replace HB := aS (hb); clear HO_5; clear hb hkp ho0)))
   ·repeat (go_quiet (first | (go_at_call 213; (with_reducible refine (yM.calls _ _ l1 x7_1 t262 _ ?side1 ?side2 A9.out).mono ?_); (case side1 => exact cb HR1 HB); (case side2 => exact HC1.out); rintro e w' ⟨rfl, ⟨nd, rfl⟩⟩; (try first | exact ⟨rfl, _, World.drewN_drewN _ _ _⟩ | exact ⟨rfl, _, Eq.trans (World.drewN_drewN _ _ _) (congrArg (World.drewN _) (Nat.add_assoc _ _ _))⟩); have p11 : 0 ≤ (x7_1 : Int) := oa; have q11 : (x7_1 : Int) < ((x5_1.length : Int) : Int) := oa; obtain ⟨go11, coq1, eoq1, gb11, gl11, cl11, HG11⟩ := Kd.z0M HO_5.out (by omega); (first | cases eoq1 | (injection eoq1 with ea_ en_ ec_; (first | subst ea_ | (injection ea_ with ea_; subst ea_)); subst ec_; clear en_)); have GB11 := aS gb11; have GG11 := aS HG11; clear gb11 gl11 HG11; obtain ⟨hx11_0, hf11_0⟩ := Kd.yx 0 HO_5.out (x7_1 : Int) p11 q11; replace p11 := eq_true p11; replace q11 := eq_true q11; obtain ⟨hy12_, hz12_⟩ := Kd.yx 0 HO_5.out (x7_1 : Int) (oa) (oa); have HP12 := Kd.z0q HO_5.out (x7_1 : Int) ((IntKind.u64.wrap ((IntKind.u64.wrap ((IntKind.u64.wrap ((IntKind.u64.wrap (rd l0 x7_1)) + 4294967296)) - t262)) - x6_1)) % 4294967296)) | ((with_reducible refine xJ (t := 145) (p := 34) rfl ?_); (try (rw [z3k wr]; generalize hq_ : World.drewN wr _ = wr; replace HO_5 := aS (Kd.zcA hq_ HO_5.out); replace HB := aS (z4E hq_ HB.out); clear hq_; (try (obtain ⟨hy12_, hz12_⟩ := Kd.yx 0 HO_5.out (x7_1 : Int) (oa) (oa))); (try (have HP12 := Kd.z0q HO_5.out (x7_1 : Int) ((IntKind.u64.wrap ((IntKind.u64.wrap ((IntKind.u64.wrap ((IntKind.u64.wrap (rd l0 x7_1)) + 4294967296)) - t262)) - x6_1)) % 4294967296))))); refine xA (t := 145) (p := 34) (v := ?vo_w13) (w1 := (wr.setCell ⟨go11, (x7_1 : Int).toNat, none⟩ (.int .u32 ((IntKind.u64.wrap ((IntKind.u64.wrap ((IntKind.u64.wrap ((IntKind.u64.wrap (rd l0 x7_1)) + 4294967296)) - t262)) - x6_1)) % 4294967296)))) ?hg ?ho ?hn ?hr ?_; (case ho => rfl); (case hg => rfl); (case hn => rfl); (case hr => first | (go_simp; done) | (go_simp; rfl)); intro wq1 hw; have hg : wr.grownBy wq1 (some go11) := (by rw [hw]; exact HP12.2); have hp_ : Kd.R (Kd.int .u32) 145 wq1 w.heap.size (fun _ => True) (.slice (some ⟨go11, 0, none⟩) x5_1.length coq1) y263 := (by rw [hw, Ny263.out]; exact HP12.1); clear HP12; have n0_ := aS (hp_); have n1_ := aS ((by rw [hw]; exact zG (HB.out) GB11.out : Below w.heap.size w wq1)); clear HO_5; clear HB; have HO_5 := n0_; have HB := n1_; clear n0_ n1_; clear hg hw hp_)); try go_wp2_with (first | (go_at_call 213; (with_reducible refine (yM.calls _ _ l1 x7_1 t262 _ ?side1 ?side2 A9.out).mono ?_); (case side1 => exact cb HR1 HB); (case side2 => exact HC1.out); rintro e w' ⟨rfl, ⟨nd, rfl⟩⟩; (try first | exact ⟨rfl, _, World.drewN_drewN _ _ _⟩ | exact ⟨rfl, _, Eq.trans (World.drewN_drewN _ _ _) (congrArg (World.drewN _) (Nat.add_assoc _ _ _))⟩); have p11 : 0 ≤ (x7_1 : Int) := oa; have q11 : (x7_1 : Int) < ((x5_1.length : Int) : Int) := oa; obtain ⟨go11, coq1, eoq1, gb11, gl11, cl11, HG11⟩ := Kd.z0M HO_5.out (by omega); (first | cases eoq1 | (injection eoq1 with ea_ en_ ec_; (first | subst ea_ | (injection ea_ with ea_; subst ea_)); subst ec_; clear en_)); have GB11 := aS gb11; have GG11 := aS HG11; clear gb11 gl11 HG11; obtain ⟨hx11_0, hf11_0⟩ := Kd.yx 0 HO_5.out (x7_1 : Int) p11 q11; replace p11 := eq_true p11; replace q11 := eq_true q11; obtain ⟨hy12_, hz12_⟩ := Kd.yx 0 HO_5.out (x7_1 : Int) (oa) (oa); have HP12 := Kd.z0q HO_5.out (x7_1 : Int) ((IntKind.u64.wrap ((IntKind.u64.wrap ((IntKind.u64.wrap ((IntKind.u64.wrap (rd l0 x7_1)) + 4294967296)) - t262)) - x6_1)) % 4294967296)) | ((with_reducible refine xJ (t := 145) (p := 34) rfl ?_); (try (rw [z3k wr]; generalize hq_ : World.drewN wr _ = wr; replace HO_5 := aS (Kd.zcA hq_ HO_5.out); replace HB := aS (z4E hq_ HB.out); clear hq_; (try (obtain ⟨hy12_, hz12_⟩ := Kd.yx 0 HO_5.out (x7_1 : Int) (oa) (oa))); (try (have HP12 := Kd.z0q HO_5.out (x7_1 : Int) ((IntKind.u64.wrap ((IntKind.u64.wrap ((IntKind.u64.wrap ((IntKind.u64.wrap (rd l0 x7_1)) + 4294967296)) - t262)) - x6_1)) % 4294967296))))); refine xA (t := 145) (p := 34) (v := ?vo_w13) (w1 := (wr.setCell ⟨go11, (x7_1 : Int).toNat, none⟩ (.int .u32 ((IntKind.u64.wrap ((IntKind.u64.wrap ((IntKind.u64.wrap ((IntKind.u64.wrap (rd l0 x7_1)) + 4294967296)) - t262)) - x6_1)) % 4294967296)))) ?hg ?ho ?hn ?hr ?_; (case ho => rfl); (case hg => rfl); (case hn => rfl); (case hr => first | (go_simp; done) | (go_simp; rfl)); intro wq1 hw; have hg : wr.grownBy wq1 (some go11) := (by rw [hw]; exact HP12.2); have hp_ : Kd.R (Kd.int .u32) 145 wq1 w.heap.size (fun _ => True) (.slice (some ⟨go11, 0, none⟩) x5_1.length coq1) y263 := (by rw [hw, Ny263.out]; exact HP12.1); clear HP12; have n0_ := aS (hp_); have n1_ := aS ((by rw [hw]; exact zG (HB.out) GB11.out : Below w.heap.size w wq1)); clear HO_5; clear HB; have HO_5 := n0_; have HB := n1_; clear n0_ n1_; clear hg hw hp_)))
    go_roundg k1
    case measure => have := HK1.out; omega
    case rel => exact ⟨(y263), (IntKind.u64.wrap (1 - ((IntKind.u64.wrap ((IntKind.u64.wrap ((IntKind.u64.wrap ((IntKind.u64.wrap (rd l0 x7_1)) + 4294967296)) - t262)) - x6_1)) / 4294967296))), (wrap64 (x7_1 + 1)), rs, rs, H', ⟨by have := HK1.out; omega⟩, ⟨by exact rA HO_5.out⟩, ⟨bl HB⟩⟩
   ·repeat (go_quiet (first | (go_at_call 150; (with_reducible refine (zx.calls k1 (fun k_ => some k_ = (.slice Ao15 x5_1.length co15 : Value).ownBlock) (.slice Ao15 x5_1.length co15) x5_1 t264 w _ ?side1 ?side2 A14.out).mono ?_); (case side1 => exact bl HB); (case side2 => exact Kd.z0Q rfl HO_5.out); rintro e wq1 ⟨v265, rfl, ho0, hb, hkp⟩; have HO266 := aS (Kd.zw (ok' := fun k_ => True) ho0 (fun k_ hk_ => trivial)); replace HB := aS (hb); clear HO_5; (try clear ho0))); try go_wp2_with (first | (go_at_call 150; (with_reducible refine (zx.calls k1 (fun k_ => some k_ = (.slice Ao15 x5_1.length co15 : Value).ownBlock) (.slice Ao15 x5_1.length co15) x5_1 t264 w _ ?side1 ?side2 A14.out).mono ?_); (case side1 => exact bl HB); (case side2 => exact Kd.z0Q rfl HO_5.out); rintro e wq1 ⟨v265, rfl, ho0, hb, hkp⟩; have HO266 := aS (Kd.zw (ok' := fun k_ => True) ho0 (fun k_ hk_ => trivial)); replace HB := aS (hb); clear HO_5; (try clear ho0))))
    go_ret
    exact ⟨_, re, by exact rA HO266.out, bl HB⟩
def zW.l0 : Nat → List Int → Int → List Int → Int → Option (List Int)
 | 0, _, _, _, _ => none
 | k + 1, x0, x1, x5, x6 => if x6 < (x0.length : Int) then (if 0 ≤ x6 then (if x6 < (x5.length : Int) then (zW.l0 k x0 ((rd x0 x6) / 2147483648) (x5.set (x6 : Int).toNat (Go.bits .or .u32 (((rd x0 x6) * 2) % 4294967296) x1)) (wrap64 (x6 + 1))) else (none)) else (none)) else (if 0 ≤ (x0.length : Int) then (if (x0.length : Int) < (x5.length : Int) then ((zx.f k (x5.set ((x0.length : Int) : Int).toNat x1)).bind fun t274 => (some t274)) else (none)) else (none))
def zW.f (k : Nat) (l0 : List Int) (a1 : Int) : Option (List Int) := if 0 ≤ (wrap64 ((l0.length : Int) + 1)) then (if (wrap64 ((l0.length : Int) + 1) : Int).toNat ≤ 70368744177664 then (zW.l0 k l0 a1 (List.replicate (wrap64 ((l0.length : Int) + 1) : Int).toNat 0) 0) else (none)) else (none)
theorem zW.calls (k : Nat) (A0 : Option Addr) (c0 : Nat) (l0 : List Int) (a1 : Int) (r : List Int) (w : World) (hr0 : Kd.C (Kd.int .u32) w A0 l0.length l0) (hc0 : l0.length ≤ c0) (h : zW.f k l0 a1 = some r) :
 Calls Tryz.prog 182 #[.slice A0 l0.length c0, .int .u32 a1] w fun e w' => ∃ v0_ : Value, e = .returned (v0_) ∧ Kd.R (Kd.int .u32) 145 w' w.heap.size (fun _ => True) v0_ r ∧ Below w.heap.size w w' := by
 have HR0 := aS hr0
 have HC0 := aS hc0
 clear hr0 hc0
 have HB := hR w
 have H := h
 unfold zW.f at H
 clear h
 obtain ⟨ji3, hji3⟩ : ∃ j_ : Int, (wrap64 ((l0.length : Int) + 1)) = j_ := ⟨_, rfl⟩
 simp only [hji3] at H
 have hji3w : (IntKind.i64.wrap ((l0.length : Int) + 1)) = ji3 := (yh _).trans hji3
 replace H := iE_ H
 obtain ⟨c4b0, c4b1, H⟩ := H
 replace H := iE_ H
 obtain ⟨c5b0, c5b1, H⟩ := H
 obtain ⟨y267, Ny267⟩ := yE (List.replicate (ji3 : Int).toNat 0 : List Int)
 rw [← Ny267.out] at H
 have H' := aS H
 clear H
 go_enter Tryz.func182, Tryz.ntmps182
 go_wp2_with (first | ((with_reducible refine zq (N := 10) rfl ?_); refine Kd.z1w (Kd.int .u32) _ 145 rfl (N := 10) rfl 59 _ _ rfl ji3 rfl rfl Tryz.underlying59 (.int .u32 0) 4 xR rfl (by decide) (by omega) 0 (ok := fun _ => True) (okp := fun _ => True) rfl (fun _ hk => hk) trivial (oa) (Nat.le_trans (Nat.mul_le_mul_right _ (oa : ji3.toNat ≤ 70368744177664)) (by omega)) (Below.refl _ _) (Nat.le_refl _) ?_; intro v268 w6 ho7 hb hg_ hnew_; clear hg_ hnew_; (first | rw [← Ny267.out] at ho7 | (simp only [Int.reduceToNat] at ho7; rw [← Ny267.out] at ho7)); have HO269 := aS (Kd.zL ho7 (zg (bl HB))); replace HB := hB_ HB hb; clear hb ho7))
 go_loopg [1, 6] k (fun kq v1 v6 w' => ∃ (x1_1 : Int) (x5_1 : List Int) (x6_1 : Int), v1 = .int .u32 x1_1 ∧ v6 = .int .i64 x6_1 ∧ Aside0 (zW.l0 kq l0 x1_1 x5_1 x6_1 = some r) ∧ Aside0 (kq ≤ k) ∧ Aside0 (Kd.R (Kd.int .u32) 145 w' w.heap.size (fun _ => True) v268 x5_1) ∧ Aside0 (Below w.heap.size w w'))
 case atStart => exact ⟨(a1), (y267), (0), rs, rs, H', ⟨Nat.le_refl _⟩, ⟨by exact rA HO269.out⟩, ⟨bl HB⟩⟩
 case round =>
  clear H'
  obtain ⟨x1_1, x5_1, x6_1, rfl, rfl, HA, HK1, HO_5, HB⟩ := hrel
  cases gk with
  | zero => exact absurd HA.out (by simp [zW.l0])
  | succ k1 =>
   have H := HA.out
   clear HA
   simp only [zW.l0] at H
   by_cases c8 : x6_1 < (l0.length : Int); rotate_left
   ·rw [if_neg c8] at H
    have c8b0 := dF c8
    clear c8
    replace H := iN_ H
    obtain ⟨c14, H⟩ := H
    have c14b0 := dT c14
    have c14b1 : decide (0 ≤ l0.length) = true := dT (by omega)
    clear c14
    replace H := iN_ H
    obtain ⟨c15, H⟩ := H
    have c15b0 := dT c15
    have c15b1 : decide (l0.length < x5_1.length) = true := dT (Int.ofNat_lt.mp c15)
    clear c15
    obtain ⟨y273, Ny273⟩ := yE (x5_1.set ((l0.length : Int) : Int).toNat x1_1 : List Int)
    rw [← Ny273.out] at H
    replace H := bA H
    obtain ⟨t274, A17, H⟩ := H
    obtain rfl := sI H
    have p16 : 0 ≤ ((l0.length : Int) : Int) := oa
    have q16 : ((l0.length : Int) : Int) < ((x5_1.length : Int) : Int) := oa
    obtain ⟨go16, co16, eo16, gb16, gl16, cl16, HG16⟩ := Kd.z0M HO_5.out (by omega)
    (first | cases eo16 | (injection eo16 with ea_ en_ ec_; (first | subst ea_ | (injection ea_ with ea_; subst ea_)); subst ec_; clear en_))
    have GB16 := aS gb16
    have GG16 := aS HG16
    clear gb16 gl16 HG16
    obtain ⟨hx16_0, hf16_0⟩ := Kd.yx 0 HO_5.out ((l0.length : Int) : Int) p16 q16
    replace p16 := eq_true p16
    replace q16 := eq_true q16
    have HP18 := Kd.z0q HO_5.out ((l0.length : Int) : Int) x1_1
    rw [Int.toNat_natCast] at hx16_0 hf16_0 HP18
    go_wp2_with (first | ((with_reducible refine xJ (t := 145) (p := 36) rfl ?_); refine xA (t := 145) (p := 36) (v := ?vo_w19) (w1 := (wr.setCell ⟨go16, l0.length, none⟩ (.int .u32 x1_1))) ?hg ?ho ?hn ?hr ?_; (case ho => rfl); (case hg => rfl); (case hn => rfl); (case hr => first | (go_simp; done) | (go_simp; rfl)); intro w19 hw; have hg : wr.grownBy w19 (some go16) := (by rw [hw]; exact HP18.2); have hp_ : Kd.R (Kd.int .u32) 145 w19 w.heap.size (fun _ => True) (.slice (some ⟨go16, 0, none⟩) x5_1.length co16) y273 := (by rw [hw, Ny273.out, Int.toNat_natCast]; exact HP18.1); clear HP18; replace HO_5 := aS (hp_); replace HB := aS ((by rw [hw]; exact zG (HB.out) GB16.out : Below w.heap.size w w19)); clear hg hw hp_) | ((with_reducible refine zi (f := 150) rfl ?_); refine gl 38 Tryz.func150 #[.slice (some ⟨go16, 0, none⟩) x5_1.length co16] ?_; (with_reducible refine (zx.calls k1 (fun k_ => some k_ = (.slice (some ⟨go16, 0, none⟩) x5_1.length co16 : Value).ownBlock) (.slice (some ⟨go16, 0, none⟩) x5_1.length co16) y273 t274 w _ ?side1 ?side2 A17.out).mono ?_); (case side1 => exact bl HB); (case side2 => exact Kd.z0Q rfl HO_5.out); rintro e w20 ⟨v275, rfl, ho0, hb, hkp⟩; refine ⟨_, rfl, ?_⟩; have HO276 := aS (Kd.zw (ok' := fun k_ => True) ho0 (fun k_ hk_ => trivial)); replace HB := aS (hb); clear HO_5; clear hb hkp ho0))
    go_ret
    exact ⟨_, by first | rfl | (simp [yY, yZ] <;> rfl) | (simp only [← hji3]; first | rfl | (simp [yY, yZ] <;> rfl)) | (simp [*, yY, yZ] <;> rfl), by exact rA HO276.out, bl HB⟩
   rw [if_pos c8] at H
   have c8b0 := dT c8
   clear c8
   replace H := iD_ H
   obtain ⟨c9b0, H⟩ := H
   replace H := iD_ H
   obtain ⟨c10b0, H⟩ := H
   obtain ⟨y271, Ny271⟩ := yE (x5_1.set (x6_1 : Int).toNat (Go.bits .or .u32 (((rd l0 x6_1) * 2) % 4294967296) x1_1) : List Int)
   rw [← Ny271.out] at H
   have H' := aS H
   clear H
   obtain ⟨ad270, e270, hx270_0⟩ := Kd.zT HR0.out x6_1 oa oa
   cases e270
   replace hx270_0 := xb HB hx270_0
   have p270 : (0 ≤ (x6_1 : Int)) = True := tO
   have q270 : (x6_1 < (l0.length : Int)) = True := tO
   have p11 : 0 ≤ (x6_1 : Int) := oa
   have q11 : (x6_1 : Int) < ((x5_1.length : Int) : Int) := oa
   obtain ⟨go11, co11, eo11, gb11, gl11, cl11, HG11⟩ := Kd.z0M HO_5.out (by omega)
   (first | cases eo11 | (injection eo11 with ea_ en_ ec_; (first | subst ea_ | (injection ea_ with ea_; subst ea_)); subst ec_; clear en_))
   have GB11 := aS gb11
   have GG11 := aS HG11
   clear gb11 gl11 HG11
   obtain ⟨hx11_0, hf11_0⟩ := Kd.yx 0 HO_5.out (x6_1 : Int) p11 q11
   replace p11 := eq_true p11
   replace q11 := eq_true q11
   have HP12 := Kd.z0q HO_5.out (x6_1 : Int) (Go.bits .or .u32 (((rd l0 x6_1) * 2) % 4294967296) x1_1)
   go_wp2_with (first | ((with_reducible refine xJ (t := 145) (p := 26) rfl ?_); refine xA (t := 145) (p := 26) (v := ?vo_w13) (w1 := (wr.setCell ⟨go11, (x6_1 : Int).toNat, none⟩ (.int .u32 (Go.bits .or .u32 (((rd l0 x6_1) * 2) % 4294967296) x1_1)))) ?hg ?ho ?hn ?hr ?_; (case ho => rfl); (case hg => rfl); (case hn => rfl); (case hr => first | (go_simp; done) | (go_simp; rfl)); intro w13 hw; have hg : wr.grownBy w13 (some go11) := (by rw [hw]; exact HP12.2); have hp_ : Kd.R (Kd.int .u32) 145 w13 w.heap.size (fun _ => True) (.slice (some ⟨go11, 0, none⟩) x5_1.length co11) y271 := (by rw [hw, Ny271.out]; exact HP12.1); clear HP12; replace HO_5 := aS (hp_); replace HB := aS ((by rw [hw]; exact zG (HB.out) GB11.out : Below w.heap.size w w13)); clear hg hw hp_; have p272 : 0 ≤ (x6_1 : Int) := oa; have q272 : x6_1 < (l0.length : Int) := oa; obtain ⟨ad272, e272, hx272_0⟩ := Kd.zT HR0.out x6_1 p272 q272; obtain rfl : ad270 = ad272 := (by injection e272); replace hx272_0 := xb HB hx272_0; replace p272 := eq_true p272; replace q272 := eq_true q272))
   go_roundg k1
   case measure => have := HK1.out; omega
   case rel => exact ⟨((rd l0 x6_1) / 2147483648), (y271), (wrap64 (x6_1 + 1)), rs, rs, H', ⟨by have := HK1.out; omega⟩, ⟨by exact rA HO_5.out⟩, ⟨bl HB⟩⟩
end
end Go.Proofs.QP

