import Derived.Test.YtbkknoipgmlcmaaGreatDoorQGM3
set_option linter.all false
set_option maxHeartbeats 8000000
set_option maxRecDepth 100000
namespace Go.Proofs.QP
open Go.RowKit Go.Proofs.PW Go.Proofs.PL Go.Proofs.PM Go.Proofs.FX
section
attribute [local go_sem] yd zV
attribute [local go_sem] xf xg xD xE yI yJ xl xm
theorem evt {a : Act} {n : Nat} {v : Value} (h : a.tmps[n]? = some v) : a.eval (.tmp n) = v := by simp [Act.eval, h]
theorem zdr {v1 v2 : Value} (h : ∀ k, v2.ownBlock = some k → some k ≠ v1.ownBlock) : v1.ownBlock = none ∨ v1.ownBlock ≠ v2.ownBlock := by
 cases e : v2.ownBlock with
 | none =>
  cases e1 : v1.ownBlock with
  | none => exact .inl rfl
  | some k => exact .inr (fun h => by cases h)
 | some k => exact .inr (fun e2 => h k e e2.symm)
def zy.f (a0_0 : Int) (a0_1 : Bool) (l0_2 : List Int) (l0_3 : List Int) (a1 : Int) : Option (Int × Bool × List Int × List Int × Int) := (some (([] : List Int) : List Int)).bind fun y120 => (if 0 ≤ (mn (l0_2.length : Int) (mn 130 (mx 2 (wrap64 (Int.tdiv a1 2))))) then (if (mn (l0_2.length : Int) (mn 130 (mx 2 (wrap64 (Int.tdiv a1 2))))) ≤ (l0_2.length : Int) then (if y120.length + (l0_2.take ((mn (l0_2.length : Int) (mn 130 (mx 2 (wrap64 (Int.tdiv a1 2))))) : Int).toNat).length < 35184372088832 then ((some (y120 ++ (l0_2.take ((mn (l0_2.length : Int) (mn 130 (mx 2 (wrap64 (Int.tdiv a1 2))))) : Int).toNat) : List Int)).bind fun y124 => ((some (([] : List Int) : List Int)).bind fun y127 => (if 0 ≤ (mn (l0_3.length : Int) (mn 130 (mx 2 (wrap64 (Int.tdiv a1 2))))) then (if (mn (l0_3.length : Int) (mn 130 (mx 2 (wrap64 (Int.tdiv a1 2))))) ≤ (l0_3.length : Int) then (if y127.length + (l0_3.take ((mn (l0_3.length : Int) (mn 130 (mx 2 (wrap64 (Int.tdiv a1 2))))) : Int).toNat).length < 35184372088832 then ((some (y127 ++ (l0_3.take ((mn (l0_3.length : Int) (mn 130 (mx 2 (wrap64 (Int.tdiv a1 2))))) : Int).toNat) : List Int)).bind fun y131 => (some (a0_0, a0_1, y124, y131, wrap64 ((y124.length : Int) + (y131.length : Int))))) else (none)) else (none)) else (none)))) else (none)) else (none)) else (none))
def zy.T2 : Bool × List (List Nat × List Nat) := (true, [([], []), ([0], [0]), ([], []), ([2], [2]), ([], []), ([], []), ([5], [5]), ([], []), ([7], [7]), ([8], [8]), ([], []), ([9, 10], [9, 10]), ([6, 11], [6, 11]), ([4, 12], [4, 12]), ([], []), ([], []), ([15], [15]), ([], []), ([17], [17]), ([18], [18]), ([], []), ([19, 20], [19, 20]), ([16, 21], [16, 21]), ([14, 22, 13], [14, 22]), ([1, 3, 13, 23], [1, 3, 13, 23]), ([], []), ([25, 24, 23, 0, 1, 2, 3, 4, 5, 6, 7, 8, 9, 10, 11, 12, 13, 14, 15, 16, 17, 18, 19, 20, 21, 22, 23, 24, 25], [24, 25])])
def zy.B2 : List Nat := [0, 1, 0, 4, 0, 0, 32, 0, 128, 384, 0, 1920, 4064, 8176, 0, 0, 32768, 0, 131072, 393216, 0, 1966080, 4161536, 8388592, 16777215, 0, 67108863]
theorem zy.zel : z06 .any (opsOf Tryz.f85 2) = zy.T2 := by kernel_rfl
theorem zy.zdt : z0f zy.T2.2 zy.B2 = true := by kernel_rfl
def zy.T3 : Bool × List (List Nat × List Nat) := (true, [([], []), ([], []), ([1], [1]), ([2], [2]), ([], []), ([4], [4]), ([5], [5]), ([3, 6], [3, 6]), ([0, 0], [0]), ([7, 8, 0, 1, 2, 3, 4, 5, 6, 7, 8], [7])])
def zy.B3 : List Nat := [0, 0, 2, 6, 0, 16, 48, 126, 1, 511]
theorem zy.zem : z06 .any (opsOf Tryz.f85 3) = zy.T3 := by kernel_rfl
theorem zy.zdu : z0f zy.T3.2 zy.B3 = true := by kernel_rfl
theorem zy.calls (a0_0 : Int) (a0_1 : Bool) (A0_2 : Option Addr) (c0_2 : Nat) (l0_2 : List Int) (A0_3 : Option Addr) (c0_3 : Nat) (l0_3 : List Int) (a1 : Int) (r1 : Int) (r2 : Bool) (r3 : List Int) (r4 : List Int) (r5 : Int) (w : World) (hr0_2 : Kd.C (Kd.int .u32) w A0_2 l0_2.length l0_2) (hc0_2 : l0_2.length ≤ c0_2) (hr0_3 : Kd.C (Kd.int .u32) w A0_3 l0_3.length l0_3) (hc0_3 : l0_3.length ≤ c0_3) (h : zy.f a0_0 a0_1 l0_2 l0_3 a1 = some (r1, r2, r3, r4, r5)) :
 Calls Tryz.prog 85 #[.agg #[.int .i64 a0_0, .bool a0_1, .slice A0_2 l0_2.length c0_2, .slice A0_3 l0_3.length c0_3], .int .i64 a1] w fun e w' => ∃ v2_ v3_ : Value, e = .returned (.tuple #[.agg #[.int .i64 r1, .bool r2, v2_, v3_], .int .i64 r5]) ∧ Kd.R (Kd.int .u32) 145 w' w.heap.size (fun k_ => some k_ ≠ (v3_ : Value).ownBlock) v2_ r3 ∧ Kd.R (Kd.int .u32) 145 w' w.heap.size (fun k_ => some k_ ≠ (v2_ : Value).ownBlock) v3_ r4 ∧ Below w.heap.size w w' := by
 have hu61 := Tryz.underlying61
 have HR0_2 := aS hr0_2
 have HC0_2 := aS hc0_2
 clear hr0_2 hc0_2
 have HR0_3 := aS hr0_3
 have HC0_3 := aS hc0_3
 clear hr0_3 hc0_3
 have HB := hR w
 have H := h
 unfold zy.f at H
 clear h
 obtain ⟨ji3, hji3⟩ : ∃ j_ : Int, (mx 2 (wrap64 (Int.tdiv a1 2))) = j_ := ⟨_, rfl⟩
 simp only [hji3] at H
 (try (have hji3l : 2 ≤ ji3 := by (rw [← hji3]; unfold mx; (repeat' split) <;> omega)))
 (try (have hji3m : 0 ≤ ji3 := by omega))
 have hji3_ : (if 2 < (wrap64 (Int.tdiv a1 2)) then (wrap64 (Int.tdiv a1 2)) else 2) = ji3 := hji3
 obtain ⟨ji4, hji4⟩ : ∃ j_ : Int, (mn 130 (ji3)) = j_ := ⟨_, rfl⟩
 simp only [hji4] at H
 have hji4_ : (if (ji3) < 130 then (ji3) else 130) = ji4 := hji4
 replace H := yB H
 obtain ⟨y120, Ny120, H⟩ := H
 obtain ⟨ji5, hji5⟩ : ∃ j_ : Int, (mn (l0_2.length : Int) (ji4)) = j_ := ⟨_, rfl⟩
 simp only [hji5] at H
 have hji5_ : (if (ji4) < (l0_2.length : Int) then (ji4) else (l0_2.length : Int)) = ji5 := hji5
 replace H := iE_ H
 obtain ⟨c6b0, c6b1, H⟩ := H
 replace H := iE_ H
 obtain ⟨c7b0, c7b1, H⟩ := H
 replace H := iN_ H
 obtain ⟨c8, H⟩ := H
 have LMc8 := aS c8
 clear c8
 replace H := yB H
 obtain ⟨y124, Ny124, H⟩ := H
 replace H := yB H
 obtain ⟨y127, Ny127, H⟩ := H
 obtain ⟨ji9, hji9⟩ : ∃ j_ : Int, (mn (l0_3.length : Int) (ji4)) = j_ := ⟨_, rfl⟩
 simp only [hji9] at H
 have hji9_ : (if (ji4) < (l0_3.length : Int) then (ji4) else (l0_3.length : Int)) = ji9 := hji9
 replace H := iE_ H
 obtain ⟨c10b0, c10b1, H⟩ := H
 replace H := iE_ H
 obtain ⟨c11b0, c11b1, H⟩ := H
 replace H := iN_ H
 obtain ⟨c12, H⟩ := H
 have LMc12 := aS c12
 clear c12
 replace H := yB H
 obtain ⟨y131, Ny131, H⟩ := H
 simp only [Option.some.injEq, Prod.mk.injEq] at H
 obtain ⟨rfl, rfl, rfl, rfl, rfl⟩ := H
 go_enter Tryz.func85, Tryz.ntmps85
 try go_wp2_with (first | ((with_reducible refine zq (N := 2) rfl ?_); refine bx (N := 2) (cs := #[.int .i64 a0_0, .bool a0_1, .slice A0_2 l0_2.length c0_2, .slice A0_3 l0_3.length c0_3]) (t := 61) ?_; intro gb118 hg w13 hbox hb; have BK118 := aS (hbox); have GW118 := (gz hg HB : Aside0 (w.heap.size ≤ gb118)); have GE118 := (gz hg HB : Aside0 (w.heap.size ≤ gb118)); replace HB := hB_ HB hb; clear hb hbox hg) | ((with_reducible refine zq (N := 4) rfl ?_); refine bx (N := 4) (cs := #[.int .i64 0, .bool false, .slice none 0 0, .slice none 0 0]) (t := 61) ?_; intro gb119 hg w14 hbox hb; have n0_ := aS (zf (bj BK118) hb); have n1_ := aS (bs_ (bl HB) hb); have n2_ := aS (hbox); have n3_ := (gz hg HB : Aside0 (w.heap.size ≤ gb119)); have n4_ := (gz hg HB : Aside0 (w.heap.size ≤ gb119)); have n5_ := aS ((by rw [hg]; exact Nat.ne_of_lt (yR (bj BK118)) : gb118 ≠ gb119)); have n6_ := aS ((by rw [hg]; exact Nat.ne_of_gt (yR (bj BK118)) : gb119 ≠ gb118)); clear BK118; clear HB; have BK118 := n0_; have HB := n1_; have BK119 := n2_; have GW119 := n3_; have GE119 := n4_; have NB118_119 := n5_; have NB119_118 := n6_; clear n0_ n1_ n2_ n3_ n4_ n5_ n6_; clear hb hbox hg))
 replace BK118 := aS (yb BK118.out)
 replace BK119 := aS (yb BK119.out)
 replace HB := aS (zD HB.out)
 obtain ⟨i016, hi016, _, hsz16, _⟩ := info_parts xR
 obtain ⟨hcut16, hA16, hC16⟩ := z1Q (P := Tryz.prog) (Value.int .u32) 0 59 145 .i64 Tryz.underlying59 hi016 hsz16 A0_2 c0_2 l0_2 (ji5) (oa) (oa) HC0_2.out
 have HR123 := aS (Kd.z3c (h1 := fun _ => rfl) (hA16 _ (Kd.xv HR0_2.out)))
 have HC123 := aS hC16
 clear hA16 hC16 hi016 hsz16
 obtain ⟨i017, hi017, _, hsz17, _⟩ := info_parts xR
 obtain ⟨hcut17, hA17, hC17⟩ := z1Q (P := Tryz.prog) (Value.int .u32) 0 59 145 .i64 Tryz.underlying59 hi017 hsz17 A0_3 c0_3 l0_3 (ji9) (oa) (oa) HC0_3.out
 have HR130 := aS (Kd.z3c (h1 := fun _ => rfl) (hA17 _ (Kd.xv HR0_3.out)))
 have HC130 := aS hC17
 clear hA17 hC17 hi017 hsz17
 refine z16 (n := 27) (S := fun w' => True) (ds := []) (mk 27 0) (by kernel_rfl) rfl (by kernel_rfl) trivial (fun hHeld => ?_); refine z0K zy.zel zy.zdt (fun HT_ HW_ => ?_)
 generalize w14.drew = w15 at BK118 BK119 HB HR123 HR130 hHeld ⊢
 refine pv 0 12 (mk 27 1) ?_
 refine pv 2 14 (mk 27 5) ?_
 refine pv 5 17 (mk 27 37) ?_
 refine pv 7 19 (mk 27 165) ?_
 refine pv 10 22 (mk 27 1189) ?_
 refine pv 15 27 (mk 27 33957) ?_
 refine pv 17 29 (mk 27 165029) ?_
 refine pv 20 32 (mk 27 1213605) ?_
 refine zcT [1, 3, 4, 6, 8, 9, 11, 12, 13, 14, 16, 18, 19, 21, 22, 23, 24, 25, 26] (fun a0_ b a w' => ∃ (v121 : Value) (v125 : Value) (v128 : Value) (v132 : Value) (gb134 : Nat) (m24_ : Value) (m25_ : Value), a = xZ a0_ b [(1, 13, .int .i64 a0_0), (3, 15, .bool a0_1), (4, 16, v121), (6, 18, .slice A0_2 l0_2.length c0_2), (8, 20, .slice A0_2 l0_2.length c0_2), (9, 21, .int .i64 (l0_2.length : Int)), (11, 23, .int .i64 ji5), (12, 24, .slice A0_2 (l0_2.take ((ji5) : Int).toNat).length c0_2), (13, 25, v125), (14, 26, v128), (16, 28, .slice A0_3 l0_3.length c0_3), (18, 30, .slice A0_3 l0_3.length c0_3), (19, 31, .int .i64 (l0_3.length : Int)), (21, 33, .int .i64 ji9), (22, 34, .slice A0_3 (l0_3.take ((ji9) : Int).toNat).length c0_3), (23, 35, v132), (24, 36, m24_), (25, 7, m25_)] ∧ (w'.heap[gb118]? = some (.cells #[.int .i64 a0_0, .bool a0_1, .slice A0_2 l0_2.length c0_2, .slice A0_3 l0_3.length c0_3] 61 (0, 0))) ∧ (w'.heap[gb119]? = some (.cells #[.int .i64 0, .bool false, .slice none 0 0, .slice none 0 0] 61 (0, 0))) ∧ (Below w.heap.size w w') ∧ (b 4 = true → b 13 = false → Kd.R (Kd.int .u32) 145 w' w.heap.size (fun _ => True) v121 y120) ∧ (b 13 = true → Kd.R (Kd.int .u32) 145 w' w.heap.size (fun _ => True) v125 y124) ∧ (b 14 = true → b 23 = false → Kd.R (Kd.int .u32) 145 w' w.heap.size (fun _ => True) v128 y127) ∧ (b 23 = true → Kd.R (Kd.int .u32) 145 w' w.heap.size (fun _ => True) v132 y131) ∧ (b 25 = true → b 26 = false → w'.heap[gb134]? = some (.cells #[.int .i64 0, .bool false, .slice none 0 0, .slice none 0 0] 61 (0, 0))) ∧ (b 25 = true → w.heap.size ≤ gb134) ∧ (b 25 = true → w.heap.size ≤ gb134) ∧ (b 25 = true → gb118 ≠ gb134) ∧ (b 25 = true → gb134 ≠ gb118) ∧ (b 25 = true → gb119 ≠ gb134) ∧ (b 25 = true → gb134 ≠ gb119) ∧ (b 26 = true → w'.heap[gb134]? = some (.cells #[.int .i64 a0_0, .bool a0_1, v125, v132] 61 (0, 0))) ∧ (b 24 = true → (m24_ : Value) = .agg #[.int .i64 a0_0, .bool a0_1, v125, v132]) ∧ (b 25 = true → (m25_ : Value) = .pointer (some ⟨gb134, 0, none⟩)) ∧ (b 4 = true → b 13 = false → b 14 = true → (v121 : Value).ownBlock = none ∨ (v121 : Value).ownBlock ≠ (v128 : Value).ownBlock) ∧ (b 13 = true → b 14 = true → b 23 = false → (v125 : Value).ownBlock = none ∨ (v125 : Value).ownBlock ≠ (v128 : Value).ownBlock) ∧ (b 13 = true → b 23 = true → (v125 : Value).ownBlock = none ∨ (v125 : Value).ownBlock ≠ (v132 : Value).ownBlock)) HT_.out HW_.out (by kernel_rfl) (by kernel_rfl) ?_ ?_ ?_
 ·exact ⟨.bool false, .bool false, .bool false, .bool false, 0, .bool false, .bool false, by simp only [xZ, Bool.false_eq_true, if_false], BK118.out, BK119.out, HB.out, fun h_ => absurd h_ (by decide), fun h_ => absurd h_ (by decide), fun h_ => absurd h_ (by decide), fun h_ => absurd h_ (by decide), fun h_ => absurd h_ (by decide), fun h_ => absurd h_ (by decide), fun h_ => absurd h_ (by decide), fun h_ => absurd h_ (by decide), fun h_ => absurd h_ (by decide), fun h_ => absurd h_ (by decide), fun h_ => absurd h_ (by decide), fun h_ => absurd h_ (by decide), fun h_ => absurd h_ (by decide), fun h_ => absurd h_ (by decide), fun h_ => absurd h_ (by decide), fun h_ => absurd h_ (by decide), fun h_ => absurd h_ (by decide)⟩
 ·skip
  clear BK118 BK119 HB
  refine yO ?_ ?_
  ·rintro b a w' ⟨v121, v125, v128, v132, gb134, m24_, m25_, ha, hQ⟩ hb_ hon hoff
   refine ⟨_, rfl, fun K hK => ?_⟩
   have e12 : a.tmps[12]? = some (.pointer (some ⟨gb118, 0, none⟩)) := by rw [ha]; exact (z00 rfl).trans rfl
   replace ha := aS ha
   have BK118 := aS hQ.1
   have BK119 := aS hQ.2.1
   have HB := aS hQ.2.2.1
   have hc0_ := za BK118.out 0
   have hc1_ := za BK118.out 1
   have hc2_ := za BK118.out 2
   have hc3_ := za BK118.out 3
   refine z0Y (w1 := w') (v := .int .i64 a0_0) (by rfl) rfl ?_ ?_
   ·go_simp
    (try simp only [yh])
    try rfl
   refine hK.out _ _ ⟨v121, v125, v128, v132, gb134, m24_, m25_, (by rw [ha.out]; exact yT 0 hb_ rfl rfl rfl), hQ⟩
  refine yO ?_ ?_
  ·rintro b a w' ⟨v121, v125, v128, v132, gb134, m24_, m25_, ha, hQ⟩ hb_ hon hoff
   refine ⟨_, rfl, fun K hK => ?_⟩
   have e14 : a.tmps[14]? = some (.pointer (some ⟨gb118, 1, none⟩)) := by rw [ha]; exact (z00 rfl).trans rfl
   replace ha := aS ha
   have BK118 := aS hQ.1
   have BK119 := aS hQ.2.1
   have HB := aS hQ.2.2.1
   have hc0_ := za BK118.out 0
   have hc1_ := za BK118.out 1
   have hc2_ := za BK118.out 2
   have hc3_ := za BK118.out 3
   refine z0Y (w1 := w') (v := .bool a0_1) (by rfl) rfl ?_ ?_
   ·go_simp
    (try simp only [yh])
    try rfl
   refine hK.out _ _ ⟨v121, v125, v128, v132, gb134, m24_, m25_, (by rw [ha.out]; exact yT 1 hb_ rfl rfl rfl), hQ⟩
  refine yO ?_ ?_
  ·rintro b a w' ⟨v121, v125, v128, v132, gb134, m24_, m25_, ha, Q_BK118, Q_BK119, Q_HB, Q_HO122, Q_HO126, Q_HO129, Q_HO133, Q_BK134, Q_GW134, Q_GE134, Q_NB118_134, Q_NB134_118, Q_NB119_134, Q_NB134_119, Q_BK134_e26, Q_X24_, Q_X25_, Q_PA, Q_PB, Q_PC⟩ hb_ hon hoff
   refine ⟨_, rfl, fun K hK => ?_⟩
   replace ha := aS ha
   have BK118 := aS Q_BK118
   have BK119 := aS Q_BK119
   have HB := aS Q_HB
   refine Kd.z26 (Kd.int .u32) _ 145 ?hg (N := 16) ?hd (xs := ([] : List Int)) (inner := []) (ok := fun _ => True) (okp := fun _ => True) ?hr ?hp (fun _ hk => hk) trivial (Below.refl _ _) (Nat.le_refl _) (by simp) ?_; (case hd => rfl); (case hg => rfl); (case hr => first | (go_simp; done) | (go_simp; rfl)); (case hp => exact (zQ.none _ _))
   intro v121 w18 ho19 hb hg_ hnew_
   clear hg_ hnew_
   have hge_ := Kd.yf ho19
   (first | rw [← Ny120.out] at ho19 | (simp only [Int.reduceToNat] at ho19; rw [← Ny120.out] at ho19))
   have n0_ := aS (Kd.zL ho19 (zg (bl HB)))
   have n1_ := aS (zf (bj BK118) hb)
   have n2_ := aS (zf (bj BK119) hb)
   have n3_ := aS (bs_ (bl HB) hb)
   have z_HO129 := fun (h0_ : b 14 = true) (h1_ : b 23 = false) => (show Kd.R (Kd.int .u32) 145 w18 w.heap.size (fun _ => True) v128 y127 from Kd.zw (Kd.yP (by exact rA ((Q_HO129 h0_ h1_))) (Kd.yf ho19) hb) (fun _ _ => trivial))
   have z_BK134 := fun (h0_ : b 25 = true) (h1_ : b 26 = false) => (show w18.heap[gb134]? = some (.cells #[.int .i64 0, .bool false, .slice none 0 0, .slice none 0 0] 61 (0, 0)) from zf (g := gb134) (o := .cells #[.int .i64 0, .bool false, .slice none 0 0, .slice none 0 0] 61 (0, 0)) (by (with_reducible repeat (first | refine yW ?_ _ | refine yb ?_ | refine zZ ?_ _)); exact (Q_BK134 h0_ h1_)) hb)
   clear BK118
   clear BK119
   clear HB
   have HO122 := n0_
   have BK118 := n1_
   have BK119 := n2_
   have HB := n3_
   clear n0_ n1_ n2_ n3_
   clear hb ho19
   refine hK.out _ _ ⟨v121, v125, v128, v132, gb134, m24_, m25_, (by rw [ha.out]; exact yT 2 hb_ rfl rfl rfl), (bk BK118), (bk BK119), (bl HB), fun _ _ => (by exact rA HO122.out), fun h0_ => absurd ((hoff 13 (by kernel_rfl)).symm.trans h0_) (by decide), z_HO129, fun h0_ => absurd ((hoff 23 (by kernel_rfl)).symm.trans h0_) (by decide), z_BK134, Q_GW134, Q_GE134, Q_NB118_134, Q_NB134_118, Q_NB119_134, Q_NB134_119, fun h0_ => absurd ((hoff 26 (by kernel_rfl)).symm.trans h0_) (by decide), fun h0_ => absurd ((hoff 24 (by kernel_rfl)).symm.trans h0_) (by decide), Q_X25_, fun _ _ h14_ => z7W hge_ (Kd.z27 (Q_HO129 h14_ (hoff 23 (by kernel_rfl)))), fun h0_ => absurd ((hoff 13 (by kernel_rfl)).symm.trans h0_) (by decide), fun h0_ => absurd ((hoff 13 (by kernel_rfl)).symm.trans h0_) (by decide)⟩
  refine yO ?_ ?_
  ·rintro b a w' ⟨v121, v125, v128, v132, gb134, m24_, m25_, ha, hQ⟩ hb_ hon hoff
   refine ⟨_, rfl, fun K hK => ?_⟩
   have e17 : a.tmps[17]? = some (.pointer (some ⟨gb118, 2, none⟩)) := by rw [ha]; exact (z00 rfl).trans rfl
   replace ha := aS ha
   have BK118 := aS hQ.1
   have BK119 := aS hQ.2.1
   have HB := aS hQ.2.2.1
   have hc0_ := za BK118.out 0
   have hc1_ := za BK118.out 1
   have hc2_ := za BK118.out 2
   have hc3_ := za BK118.out 3
   refine z0Y (w1 := w') (v := .slice A0_2 l0_2.length c0_2) (by rfl) rfl ?_ ?_
   ·go_simp
    (try simp only [yh])
    try rfl
   refine hK.out _ _ ⟨v121, v125, v128, v132, gb134, m24_, m25_, (by rw [ha.out]; exact yT 3 hb_ rfl rfl rfl), hQ⟩
  refine yO ?_ ?_
  ·rintro b a w' ⟨v121, v125, v128, v132, gb134, m24_, m25_, ha, hQ⟩ hb_ hon hoff
   refine ⟨_, rfl, fun K hK => ?_⟩
   have e19 : a.tmps[19]? = some (.pointer (some ⟨gb118, 2, none⟩)) := by rw [ha]; exact (z00 rfl).trans rfl
   replace ha := aS ha
   have BK118 := aS hQ.1
   have BK119 := aS hQ.2.1
   have HB := aS hQ.2.2.1
   have hc0_ := za BK118.out 0
   have hc1_ := za BK118.out 1
   have hc2_ := za BK118.out 2
   have hc3_ := za BK118.out 3
   refine z0Y (w1 := w') (v := .slice A0_2 l0_2.length c0_2) (by rfl) rfl ?_ ?_
   ·go_simp
    (try simp only [yh])
    try rfl
   refine hK.out _ _ ⟨v121, v125, v128, v132, gb134, m24_, m25_, (by rw [ha.out]; exact yT 4 hb_ rfl rfl rfl), hQ⟩
  refine yO ?_ ?_
  ·rintro b a w' ⟨v121, v125, v128, v132, gb134, m24_, m25_, ha, hQ⟩ hb_ hon hoff
   refine ⟨_, rfl, fun K hK => ?_⟩
   have e20 : a.tmps[20]? = some (.slice A0_2 l0_2.length c0_2) := by rw [ha]; exact xk (e := (8, 20, .slice A0_2 l0_2.length c0_2)) 4 rfl rfl (hon 8 (by kernel_rfl)) rfl
   replace ha := aS ha
   have BK118 := aS hQ.1
   have BK119 := aS hQ.2.1
   have HB := aS hQ.2.2.1
   refine z0Y (w1 := w') (v := .int .i64 (l0_2.length : Int)) (by rfl) rfl ?_ ?_
   ·go_simp
    (try simp only [yh])
    try rfl
   refine hK.out _ _ ⟨v121, v125, v128, v132, gb134, m24_, m25_, (by rw [ha.out]; exact yT 5 hb_ rfl rfl rfl), hQ⟩
  refine yO ?_ ?_
  ·rintro b a w' ⟨v121, v125, v128, v132, gb134, m24_, m25_, ha, hQ⟩ hb_ hon hoff
   refine ⟨_, rfl, fun K hK => ?_⟩
   have e21 : a.tmps[21]? = some (.int .i64 (l0_2.length : Int)) := by rw [ha]; exact xk (e := (9, 21, .int .i64 (l0_2.length : Int))) 5 rfl rfl (hon 9 (by kernel_rfl)) rfl
   have e22 : a.tmps[22]? = some (.int .i64 ji4) := by rw [ha]; exact (z00 rfl).trans rfl
   replace ha := aS ha
   have BK118 := aS hQ.1
   have BK119 := aS hQ.2.1
   have HB := aS hQ.2.2.1
   refine z0Y (w1 := w') (v := .int .i64 ji5) (by rfl) rfl ?_ ?_
   ·go_simp
    (try simp only [yh])
    try rfl
   refine hK.out _ _ ⟨v121, v125, v128, v132, gb134, m24_, m25_, (by rw [ha.out]; exact yT 6 hb_ rfl rfl rfl), hQ⟩
  refine yO ?_ ?_
  ·rintro b a w' ⟨v121, v125, v128, v132, gb134, m24_, m25_, ha, hQ⟩ hb_ hon hoff
   refine ⟨_, rfl, fun K hK => ?_⟩
   have e18 : a.tmps[18]? = some (.slice A0_2 l0_2.length c0_2) := by rw [ha]; exact xk (e := (6, 18, .slice A0_2 l0_2.length c0_2)) 3 rfl rfl (hon 6 (by kernel_rfl)) rfl
   have e23 : a.tmps[23]? = some (.int .i64 ji5) := by rw [ha]; exact xk (e := (11, 23, .int .i64 ji5)) 6 rfl rfl (hon 11 (by kernel_rfl)) rfl
   replace ha := aS ha
   have BK118 := aS hQ.1
   have BK119 := aS hQ.2.1
   have HB := aS hQ.2.2.1
   refine z0Y (w1 := w') (v := .slice A0_2 (l0_2.take ((ji5) : Int).toNat).length c0_2) (by rfl) rfl ?_ ?_
   ·go_simp
    (try simp only [yh])
    try rfl
   refine hK.out _ _ ⟨v121, v125, v128, v132, gb134, m24_, m25_, (by rw [ha.out]; exact yT 7 hb_ rfl rfl rfl), hQ⟩
  refine yO ?_ ?_
  ·rintro b a w' ⟨v121, v125, v128, v132, gb134, m24_, m25_, ha, Q_BK118, Q_BK119, Q_HB, Q_HO122, Q_HO126, Q_HO129, Q_HO133, Q_BK134, Q_GW134, Q_GE134, Q_NB118_134, Q_NB134_118, Q_NB119_134, Q_NB134_119, Q_BK134_e26, Q_X24_, Q_X25_, Q_PA, Q_PB, Q_PC⟩ hb_ hon hoff
   refine ⟨_, rfl, fun K hK => ?_⟩
   have e16 : a.tmps[16]? = some (v121) := by rw [ha]; exact xk (e := (4, 16, v121)) 2 rfl rfl (hon 4 (by kernel_rfl)) rfl
   have e24 : a.tmps[24]? = some (.slice A0_2 (l0_2.take ((ji5) : Int).toNat).length c0_2) := by rw [ha]; exact xk (e := (12, 24, .slice A0_2 (l0_2.take ((ji5) : Int).toNat).length c0_2)) 7 rfl rfl (hon 12 (by kernel_rfl)) rfl
   replace ha := aS ha
   have BK118 := aS Q_BK118
   have BK119 := aS Q_BK119
   have HB := aS Q_HB
   have HO122 := aS (Q_HO122 (hon 4 (by kernel_rfl)) hb_)
   refine Kd.z0p (Kd.int .u32) (w0 := w) w.heap.size (by rfl) (.tmp 16) (.tmp 24) 59 145 (.int .u32 0) 4 rfl Tryz.underlying59 xR rfl (by decide) (by omega) v121 y120 (l0_2.take ((ji5) : Int).toNat) _ _ _ (fun _ => True) (fun _ => False) (evt e16) (evt e24) ?aO ?aR (fun _ _ h => h) (fun _ h => h.elim) ?aF ?aB ?aS ?aL ?_
   (case aR => exact Kd.zK HR123.out HB.out)
   (case aB => exact (bl HB))
   (case aF => exact (fun _ _ => trivial))
   (case aO => exact (by exact rA HO122.out))
   (case aS => exact (zg (bl HB)))
   (case aL => have := LMc8.out; have hlx_ := (show (l0_2.take ((ji5) : Int).toNat).length = (ji5).toNat from (by rw [List.length_take]; have h_ : ((ji5) : Int) ≤ (l0_2.length : Int) := oa; omega)); omega)
   intro v125 w21 ho hb hg hat
   rw [← Ny124.out] at ho
   have n0_ := aS (yX (bj BK118) hg (Kd.z3f HO122.out BK118.out (by decide)))
   have n1_ := aS (yX (bj BK119) hg (Kd.z3f HO122.out BK119.out (by decide)))
   have n2_ := aS (hb)
   have n3_ := aS (ho)
   have y_ := fun (h0_ : b 14 = true) (h1_ : b 23 = false) => Kd.z3r (ok := fun _ => True) (Kd.z3L (ok' := fun k => True ∧ some k ≠ (v121 : Value).ownBlock) (fun h => h) (Q_HO129 h0_ h1_) (fun k hk _ => ⟨trivial, z4D (Q_PA (hon 4 (by kernel_rfl)) hb_ h0_) hk⟩)) hg hat
   have z_HO129 := fun (h0_ : b 14 = true) (h1_ : b 23 = false) => (Kd.zw (y_ h0_ h1_) (fun _ _ => trivial) : Kd.R (Kd.int .u32) 145 w21 w.heap.size (fun _ => True) v128 y127)
   have z_BK134 := fun (h0_ : b 25 = true) (h1_ : b 26 = false) => (show w21.heap[gb134]? = some (.cells #[.int .i64 0, .bool false, .slice none 0 0, .slice none 0 0] 61 (0, 0)) from yX (g := gb134) (o := .cells #[.int .i64 0, .bool false, .slice none 0 0, .slice none 0 0] 61 (0, 0)) (by (with_reducible repeat (first | refine yW ?_ _ | refine yb ?_ | refine zZ ?_ _)); exact (Q_BK134 h0_ h1_)) hg (Kd.z3f HO122.out (Q_BK134 h0_ h1_) (by decide)))
   clear BK118
   clear BK119
   clear HB
   clear HO122
   have BK118 := n0_
   have BK119 := n1_
   have HB := n2_
   have HO126 := n3_
   clear n0_ n1_ n2_ n3_
   clear ho hb hg hat
   refine hK.out _ _ ⟨v121, v125, v128, v132, gb134, m24_, m25_, (by rw [ha.out]; exact yT 8 hb_ rfl rfl rfl), (bk BK118), (bk BK119), (bl HB), fun _ h1_ => absurd ((z1u b 13).symm.trans h1_) (by decide), fun _ => (by exact rA HO126.out), z_HO129, fun h0_ => absurd ((hoff 23 (by kernel_rfl)).symm.trans h0_) (by decide), z_BK134, Q_GW134, Q_GE134, Q_NB118_134, Q_NB134_118, Q_NB119_134, Q_NB134_119, fun h0_ => absurd ((hoff 26 (by kernel_rfl)).symm.trans h0_) (by decide), fun h0_ => absurd ((hoff 24 (by kernel_rfl)).symm.trans h0_) (by decide), Q_X25_, fun _ h1_ => absurd ((z1u b 13).symm.trans h1_) (by decide), fun _ h0_ h1_ => zdr (fun k hk => ((y_ h0_ h1_).1 k hk).2), fun _ h0_ => absurd ((hoff 23 (by kernel_rfl)).symm.trans h0_) (by decide)⟩
  refine yO ?_ ?_
  ·rintro b a w' ⟨v121, v125, v128, v132, gb134, m24_, m25_, ha, Q_BK118, Q_BK119, Q_HB, Q_HO122, Q_HO126, Q_HO129, Q_HO133, Q_BK134, Q_GW134, Q_GE134, Q_NB118_134, Q_NB134_118, Q_NB119_134, Q_NB134_119, Q_BK134_e26, Q_X24_, Q_X25_, Q_PA, Q_PB, Q_PC⟩ hb_ hon hoff
   refine ⟨_, rfl, fun K hK => ?_⟩
   replace ha := aS ha
   have BK118 := aS Q_BK118
   have BK119 := aS Q_BK119
   have HB := aS Q_HB
   refine Kd.z26 (Kd.int .u32) _ 145 ?hg (N := 26) ?hd (xs := ([] : List Int)) (inner := []) (ok := fun _ => True) (okp := fun _ => True) ?hr ?hp (fun _ hk => hk) trivial (Below.refl _ _) (Nat.le_refl _) (by simp) ?_; (case hd => rfl); (case hg => rfl); (case hr => first | (go_simp; done) | (go_simp; rfl)); (case hp => exact (zQ.none _ _))
   intro v128 w18 ho19 hb hg_ hnew_
   clear hg_ hnew_
   have hge_ := Kd.yf ho19
   (first | rw [← Ny127.out] at ho19 | (simp only [Int.reduceToNat] at ho19; rw [← Ny127.out] at ho19))
   have n0_ := aS (Kd.zL ho19 (zg (bl HB)))
   have n1_ := aS (zf (bj BK118) hb)
   have n2_ := aS (zf (bj BK119) hb)
   have n3_ := aS (bs_ (bl HB) hb)
   have z_HO122 := fun (h0_ : b 4 = true) (h1_ : b 13 = false) => (show Kd.R (Kd.int .u32) 145 w18 w.heap.size (fun _ => True) v121 y120 from Kd.zw (Kd.yP (by exact rA ((Q_HO122 h0_ h1_))) (Kd.yf ho19) hb) (fun _ _ => trivial))
   have z_HO126 := fun (h0_ : b 13 = true) => (show Kd.R (Kd.int .u32) 145 w18 w.heap.size (fun _ => True) v125 y124 from Kd.zw (Kd.yP (by exact rA ((Q_HO126 h0_))) (Kd.yf ho19) hb) (fun _ _ => trivial))
   have z_BK134 := fun (h0_ : b 25 = true) (h1_ : b 26 = false) => (show w18.heap[gb134]? = some (.cells #[.int .i64 0, .bool false, .slice none 0 0, .slice none 0 0] 61 (0, 0)) from zf (g := gb134) (o := .cells #[.int .i64 0, .bool false, .slice none 0 0, .slice none 0 0] 61 (0, 0)) (by (with_reducible repeat (first | refine yW ?_ _ | refine yb ?_ | refine zZ ?_ _)); exact (Q_BK134 h0_ h1_)) hb)
   clear BK118
   clear BK119
   clear HB
   have HO129 := n0_
   have BK118 := n1_
   have BK119 := n2_
   have HB := n3_
   clear n0_ n1_ n2_ n3_
   clear hb ho19
   refine hK.out _ _ ⟨v121, v125, v128, v132, gb134, m24_, m25_, (by rw [ha.out]; exact yT 9 hb_ rfl rfl rfl), (bk BK118), (bk BK119), (bl HB), z_HO122, z_HO126, fun _ _ => (by exact rA HO129.out), fun h0_ => absurd ((hoff 23 (by kernel_rfl)).symm.trans h0_) (by decide), z_BK134, Q_GW134, Q_GE134, Q_NB118_134, Q_NB134_118, Q_NB119_134, Q_NB134_119, fun h0_ => absurd ((hoff 26 (by kernel_rfl)).symm.trans h0_) (by decide), fun h0_ => absurd ((hoff 24 (by kernel_rfl)).symm.trans h0_) (by decide), Q_X25_, fun h4_ h13_ _ => z5J (Kd.z27 (Q_HO122 h4_ h13_)) hge_, fun h13_ _ _ => z5J (Kd.z27 (Q_HO126 h13_)) hge_, fun _ h0_ => absurd ((hoff 23 (by kernel_rfl)).symm.trans h0_) (by decide)⟩
  refine yO ?_ ?_
  ·rintro b a w' ⟨v121, v125, v128, v132, gb134, m24_, m25_, ha, hQ⟩ hb_ hon hoff
   refine ⟨_, rfl, fun K hK => ?_⟩
   have e27 : a.tmps[27]? = some (.pointer (some ⟨gb118, 3, none⟩)) := by rw [ha]; exact (z00 rfl).trans rfl
   replace ha := aS ha
   have BK118 := aS hQ.1
   have BK119 := aS hQ.2.1
   have HB := aS hQ.2.2.1
   have hc0_ := za BK118.out 0
   have hc1_ := za BK118.out 1
   have hc2_ := za BK118.out 2
   have hc3_ := za BK118.out 3
   refine z0Y (w1 := w') (v := .slice A0_3 l0_3.length c0_3) (by rfl) rfl ?_ ?_
   ·go_simp
    (try simp only [yh])
    try rfl
   refine hK.out _ _ ⟨v121, v125, v128, v132, gb134, m24_, m25_, (by rw [ha.out]; exact yT 10 hb_ rfl rfl rfl), hQ⟩
  refine yO ?_ ?_
  ·rintro b a w' ⟨v121, v125, v128, v132, gb134, m24_, m25_, ha, hQ⟩ hb_ hon hoff
   refine ⟨_, rfl, fun K hK => ?_⟩
   have e29 : a.tmps[29]? = some (.pointer (some ⟨gb118, 3, none⟩)) := by rw [ha]; exact (z00 rfl).trans rfl
   replace ha := aS ha
   have BK118 := aS hQ.1
   have BK119 := aS hQ.2.1
   have HB := aS hQ.2.2.1
   have hc0_ := za BK118.out 0
   have hc1_ := za BK118.out 1
   have hc2_ := za BK118.out 2
   have hc3_ := za BK118.out 3
   refine z0Y (w1 := w') (v := .slice A0_3 l0_3.length c0_3) (by rfl) rfl ?_ ?_
   ·go_simp
    (try simp only [yh])
    try rfl
   refine hK.out _ _ ⟨v121, v125, v128, v132, gb134, m24_, m25_, (by rw [ha.out]; exact yT 11 hb_ rfl rfl rfl), hQ⟩
  refine yO ?_ ?_
  ·rintro b a w' ⟨v121, v125, v128, v132, gb134, m24_, m25_, ha, hQ⟩ hb_ hon hoff
   refine ⟨_, rfl, fun K hK => ?_⟩
   have e30 : a.tmps[30]? = some (.slice A0_3 l0_3.length c0_3) := by rw [ha]; exact xk (e := (18, 30, .slice A0_3 l0_3.length c0_3)) 11 rfl rfl (hon 18 (by kernel_rfl)) rfl
   replace ha := aS ha
   have BK118 := aS hQ.1
   have BK119 := aS hQ.2.1
   have HB := aS hQ.2.2.1
   refine z0Y (w1 := w') (v := .int .i64 (l0_3.length : Int)) (by rfl) rfl ?_ ?_
   ·go_simp
    (try simp only [yh])
    try rfl
   refine hK.out _ _ ⟨v121, v125, v128, v132, gb134, m24_, m25_, (by rw [ha.out]; exact yT 12 hb_ rfl rfl rfl), hQ⟩
  refine yO ?_ ?_
  ·rintro b a w' ⟨v121, v125, v128, v132, gb134, m24_, m25_, ha, hQ⟩ hb_ hon hoff
   refine ⟨_, rfl, fun K hK => ?_⟩
   have e31 : a.tmps[31]? = some (.int .i64 (l0_3.length : Int)) := by rw [ha]; exact xk (e := (19, 31, .int .i64 (l0_3.length : Int))) 12 rfl rfl (hon 19 (by kernel_rfl)) rfl
   have e32 : a.tmps[32]? = some (.int .i64 ji4) := by rw [ha]; exact (z00 rfl).trans rfl
   replace ha := aS ha
   have BK118 := aS hQ.1
   have BK119 := aS hQ.2.1
   have HB := aS hQ.2.2.1
   refine z0Y (w1 := w') (v := .int .i64 ji9) (by rfl) rfl ?_ ?_
   ·go_simp
    (try simp only [yh])
    try rfl
   refine hK.out _ _ ⟨v121, v125, v128, v132, gb134, m24_, m25_, (by rw [ha.out]; exact yT 13 hb_ rfl rfl rfl), hQ⟩
  refine yO ?_ ?_
  ·rintro b a w' ⟨v121, v125, v128, v132, gb134, m24_, m25_, ha, hQ⟩ hb_ hon hoff
   refine ⟨_, rfl, fun K hK => ?_⟩
   have e28 : a.tmps[28]? = some (.slice A0_3 l0_3.length c0_3) := by rw [ha]; exact xk (e := (16, 28, .slice A0_3 l0_3.length c0_3)) 10 rfl rfl (hon 16 (by kernel_rfl)) rfl
   have e33 : a.tmps[33]? = some (.int .i64 ji9) := by rw [ha]; exact xk (e := (21, 33, .int .i64 ji9)) 13 rfl rfl (hon 21 (by kernel_rfl)) rfl
   replace ha := aS ha
   have BK118 := aS hQ.1
   have BK119 := aS hQ.2.1
   have HB := aS hQ.2.2.1
   refine z0Y (w1 := w') (v := .slice A0_3 (l0_3.take ((ji9) : Int).toNat).length c0_3) (by rfl) rfl ?_ ?_
   ·go_simp
    (try simp only [yh])
    try rfl
   refine hK.out _ _ ⟨v121, v125, v128, v132, gb134, m24_, m25_, (by rw [ha.out]; exact yT 14 hb_ rfl rfl rfl), hQ⟩
  refine yO ?_ ?_
  ·rintro b a w' ⟨v121, v125, v128, v132, gb134, m24_, m25_, ha, Q_BK118, Q_BK119, Q_HB, Q_HO122, Q_HO126, Q_HO129, Q_HO133, Q_BK134, Q_GW134, Q_GE134, Q_NB118_134, Q_NB134_118, Q_NB119_134, Q_NB134_119, Q_BK134_e26, Q_X24_, Q_X25_, Q_PA, Q_PB, Q_PC⟩ hb_ hon hoff
   refine ⟨_, rfl, fun K hK => ?_⟩
   have e26 : a.tmps[26]? = some (v128) := by rw [ha]; exact xk (e := (14, 26, v128)) 9 rfl rfl (hon 14 (by kernel_rfl)) rfl
   have e34 : a.tmps[34]? = some (.slice A0_3 (l0_3.take ((ji9) : Int).toNat).length c0_3) := by rw [ha]; exact xk (e := (22, 34, .slice A0_3 (l0_3.take ((ji9) : Int).toNat).length c0_3)) 14 rfl rfl (hon 22 (by kernel_rfl)) rfl
   replace ha := aS ha
   have BK118 := aS Q_BK118
   have BK119 := aS Q_BK119
   have HB := aS Q_HB
   have HO126 := aS (Kd.z3L (ok' := fun k => some k ≠ (v128 : Value).ownBlock) (fun h => h) (Q_HO126 (hon 13 (by kernel_rfl))) (fun k hk _ => z8l (Q_PB (hon 13 (by kernel_rfl)) (hon 14 (by kernel_rfl)) hb_) hk))
   have HO129 := aS (Kd.z3L (ok' := fun k => some k ≠ (v125 : Value).ownBlock) (fun h => h) (Q_HO129 (hon 14 (by kernel_rfl)) hb_) (fun k hk _ => z4D (Q_PB (hon 13 (by kernel_rfl)) (hon 14 (by kernel_rfl)) hb_) hk))
   refine Kd.z0p (Kd.int .u32) (w0 := w) w.heap.size (by rfl) (.tmp 26) (.tmp 34) 59 145 (.int .u32 0) 4 rfl Tryz.underlying59 xR rfl (by decide) (by omega) v128 y127 (l0_3.take ((ji9) : Int).toNat) _ _ _ (fun k_ => some k_ ≠ (v125 : Value).ownBlock) (fun _ => False) (evt e26) (evt e34) ?aO ?aR (fun _ _ h => h) (fun _ h => h.elim) ?aF ?aB ?aS ?aL ?_
   (case aR => exact Kd.zK HR130.out HB.out)
   (case aB => exact (bl HB))
   (case aF => exact (fun k_ hk => Kd.z0F (Kd.z27 (by exact rA HO126.out)) k_ hk))
   (case aO => exact (by exact rA HO129.out))
   (case aS => exact (zg (bl HB)))
   (case aL => have := LMc12.out; have hlx_ := (show (l0_3.take ((ji9) : Int).toNat).length = (ji9).toNat from (by rw [List.length_take]; have h_ : ((ji9) : Int) ≤ (l0_3.length : Int) := oa; omega)); omega)
   intro v132 w24 ho hb hg hat
   rw [← Ny131.out] at ho
   have n0_ := aS (yX (bj BK118) hg (Kd.z3f HO129.out BK118.out (by decide)))
   have n1_ := aS (yX (bj BK119) hg (Kd.z3f HO129.out BK119.out (by decide)))
   have n2_ := aS (Kd.z3r (ok := (fun _ => True)) (by exact rA (Kd.zw HO126.out (fun _ hk => ⟨trivial, hk⟩))) hg hat)
   have n3_ := aS (hb)
   have n4_ := aS (ho)
   have z_BK134 := fun (h0_ : b 25 = true) (h1_ : b 26 = false) => (show w24.heap[gb134]? = some (.cells #[.int .i64 0, .bool false, .slice none 0 0, .slice none 0 0] 61 (0, 0)) from yX (g := gb134) (o := .cells #[.int .i64 0, .bool false, .slice none 0 0, .slice none 0 0] 61 (0, 0)) (by (with_reducible repeat (first | refine yW ?_ _ | refine yb ?_ | refine zZ ?_ _)); exact (Q_BK134 h0_ h1_)) hg (Kd.z3f HO129.out (Q_BK134 h0_ h1_) (by decide)))
   clear BK118
   clear BK119
   clear HO126
   clear HB
   clear HO129
   have BK118 := n0_
   have BK119 := n1_
   have HO126 := n2_
   have HB := n3_
   have HO133 := n4_
   clear n0_ n1_ n2_ n3_ n4_
   clear ho hb hg hat
   obtain ⟨Ao25, co25, eo25⟩ := Kd.zB HO133.out
   (first | subst eo25 | (injection eo25 with f1_ f2_ f3_; have f4_ := f1_.symm; have f5_ := f3_.symm; clear f1_ f2_ f3_; subst f4_; subst f5_))
   obtain ⟨Ao26, co26, eo26⟩ := Kd.zB HO126.out
   (first | subst eo26 | (injection eo26 with f1_ f2_ f3_; have f4_ := f1_.symm; have f5_ := f3_.symm; clear f1_ f2_ f3_; subst f4_; subst f5_))
   refine hK.out _ _ ⟨v121, .slice Ao26 y124.length co26, v128, .slice Ao25 y131.length co25, gb134, m24_, m25_, (by rw [ha.out]; exact yT 15 hb_ rfl rfl rfl), (bk BK118), (bk BK119), (bl HB), fun _ h1_ => absurd ((hon 13 (by kernel_rfl)).symm.trans h1_) (by decide), fun _ => (by exact rA (Kd.zw HO126.out (fun _ _ => trivial))), fun _ h1_ => absurd ((z1u b 23).symm.trans h1_) (by decide), fun _ => (by exact rA (Kd.zw HO133.out (fun _ _ => trivial))), z_BK134, Q_GW134, Q_GE134, Q_NB118_134, Q_NB134_118, Q_NB119_134, Q_NB134_119, fun h0_ => absurd ((hoff 26 (by kernel_rfl)).symm.trans h0_) (by decide), fun h0_ => absurd ((hoff 24 (by kernel_rfl)).symm.trans h0_) (by decide), Q_X25_, fun _ h1_ => absurd ((hon 13 (by kernel_rfl)).symm.trans h1_) (by decide), fun _ _ h1_ => absurd ((z1u b 23).symm.trans h1_) (by decide), fun _ _ => zdr (fun k hk => HO133.out.1 k hk)⟩
  refine yO ?_ ?_
  ·rintro b a w' ⟨v121, v125, v128, v132, gb134, m24_, m25_, ha, Q_BK118, Q_BK119, Q_HB, Q_HO122, Q_HO126, Q_HO129, Q_HO133, Q_BK134, Q_GW134, Q_GE134, Q_NB118_134, Q_NB134_118, Q_NB119_134, Q_NB134_119, Q_BK134_e26, Q_X24_, Q_X25_, Q_PA, Q_PB, Q_PC⟩ hb_ hon hoff
   refine ⟨_, rfl, fun K hK => ?_⟩
   have e13 : a.tmps[13]? = some (.int .i64 a0_0) := by rw [ha]; exact xk (e := (1, 13, .int .i64 a0_0)) 0 rfl rfl (hon 1 (by kernel_rfl)) rfl
   have e15 : a.tmps[15]? = some (.bool a0_1) := by rw [ha]; exact xk (e := (3, 15, .bool a0_1)) 1 rfl rfl (hon 3 (by kernel_rfl)) rfl
   have e25 : a.tmps[25]? = some (v125) := by rw [ha]; exact xk (e := (13, 25, v125)) 8 rfl rfl (hon 13 (by kernel_rfl)) rfl
   have e35 : a.tmps[35]? = some (v132) := by rw [ha]; exact xk (e := (23, 35, v132)) 15 rfl rfl (hon 23 (by kernel_rfl)) rfl
   replace ha := aS ha
   have BK118 := aS Q_BK118
   have BK119 := aS Q_BK119
   have HB := aS Q_HB
   have HO126 := aS (Q_HO126 (hon 13 (by kernel_rfl)))
   have HO133 := aS (Q_HO133 (hon 23 (by kernel_rfl)))
   obtain ⟨Ao24_0, co24_0, eo_⟩ := Kd.zB HO126.out
   subst eo_
   obtain ⟨Ao24_1, co24_1, eo_⟩ := Kd.zB HO133.out
   subst eo_
   refine z0Y (w1 := w') (v := .agg #[.int .i64 a0_0, .bool a0_1, .slice Ao24_0 y124.length co24_0, .slice Ao24_1 y131.length co24_1]) (by rfl) rfl ?_ ?_
   ·go_simp
    (try simp only [yh])
    try rfl
   refine hK.out _ _ ⟨v121, .slice Ao24_0 y124.length co24_0, v128, .slice Ao24_1 y131.length co24_1, gb134, (.agg #[.int .i64 a0_0, .bool a0_1, .slice Ao24_0 y124.length co24_0, .slice Ao24_1 y131.length co24_1]), m25_, (by rw [ha.out]; exact yT 16 hb_ rfl rfl rfl), Q_BK118, Q_BK119, Q_HB, fun _ h1_ => absurd ((hon 13 (by kernel_rfl)).symm.trans h1_) (by decide), Q_HO126, fun _ h1_ => absurd ((hon 23 (by kernel_rfl)).symm.trans h1_) (by decide), Q_HO133, Q_BK134, Q_GW134, Q_GE134, Q_NB118_134, Q_NB134_118, Q_NB119_134, Q_NB134_119, fun h0_ => absurd ((hoff 26 (by kernel_rfl)).symm.trans h0_) (by decide), fun _ => rfl, Q_X25_, Q_PA, Q_PB, Q_PC⟩
  refine yO ?_ ?_
  ·rintro b a w' ⟨v121, v125, v128, v132, gb134, m24_, m25_, ha, Q_BK118, Q_BK119, Q_HB, Q_HO122, Q_HO126, Q_HO129, Q_HO133, Q_BK134, Q_GW134, Q_GE134, Q_NB118_134, Q_NB134_118, Q_NB119_134, Q_NB134_119, Q_BK134_e26, Q_X24_, Q_X25_, Q_PA, Q_PB, Q_PC⟩ hb_ hon hoff
   refine ⟨_, rfl, fun K hK => ?_⟩
   replace ha := aS ha
   have BK118 := aS Q_BK118
   have BK119 := aS Q_BK119
   have HB := aS Q_HB
   refine z3u ?hg (N := 7) ?hd (cs := #[.int .i64 0, .bool false, .slice none 0 0, .slice none 0 0]) (t := 61) ?hr ?_; (case hd => rfl); (case hg => rfl); (case hr => first | (go_simp; done) | (go_simp; rfl))
   intro gb134 hg w18 hbox hb
   have n0_ := aS (zf (bj BK118) hb)
   have n1_ := aS (zf (bj BK119) hb)
   have n2_ := aS (bs_ (bl HB) hb)
   have n3_ := aS (hbox)
   have n4_ := (gz hg HB : Aside0 (w.heap.size ≤ gb134))
   have n5_ := (gz hg HB : Aside0 (w.heap.size ≤ gb134))
   have n6_ := aS ((by rw [hg]; exact Nat.ne_of_lt (yR (bj BK118)) : gb118 ≠ gb134))
   have n7_ := aS ((by rw [hg]; exact Nat.ne_of_gt (yR (bj BK118)) : gb134 ≠ gb118))
   have n8_ := aS ((by rw [hg]; exact Nat.ne_of_lt (yR (bj BK119)) : gb119 ≠ gb134))
   have n9_ := aS ((by rw [hg]; exact Nat.ne_of_gt (yR (bj BK119)) : gb134 ≠ gb119))
   have z_HO122 := fun (h0_ : b 4 = true) (h1_ : b 13 = false) => (show Kd.R (Kd.int .u32) 145 w18 w.heap.size (fun _ => True) v121 y120 from Kd.zw (Kd.zU (by exact rA ((Q_HO122 h0_ h1_))) hb) (fun _ _ => trivial))
   have z_HO126 := fun (h0_ : b 13 = true) => (show Kd.R (Kd.int .u32) 145 w18 w.heap.size (fun _ => True) v125 y124 from Kd.zw (Kd.zU (by exact rA ((Q_HO126 h0_))) hb) (fun _ _ => trivial))
   have z_HO129 := fun (h0_ : b 14 = true) (h1_ : b 23 = false) => (show Kd.R (Kd.int .u32) 145 w18 w.heap.size (fun _ => True) v128 y127 from Kd.zw (Kd.zU (by exact rA ((Q_HO129 h0_ h1_))) hb) (fun _ _ => trivial))
   have z_HO133 := fun (h0_ : b 23 = true) => (show Kd.R (Kd.int .u32) 145 w18 w.heap.size (fun _ => True) v132 y131 from Kd.zw (Kd.zU (by exact rA ((Q_HO133 h0_))) hb) (fun _ _ => trivial))
   clear BK118
   clear BK119
   clear HB
   have BK118 := n0_
   have BK119 := n1_
   have HB := n2_
   have BK134 := n3_
   have GW134 := n4_
   have GE134 := n5_
   have NB118_134 := n6_
   have NB134_118 := n7_
   have NB119_134 := n8_
   have NB134_119 := n9_
   clear n0_ n1_ n2_ n3_ n4_ n5_ n6_ n7_ n8_ n9_
   clear hb hbox hg
   refine hK.out _ _ ⟨v121, v125, v128, v132, gb134, m24_, (.pointer (some ⟨gb134, 0, none⟩)), (by rw [ha.out]; exact yT 17 hb_ rfl rfl rfl), (bk BK118), (bk BK119), (bl HB), z_HO122, z_HO126, z_HO129, z_HO133, fun _ _ => (bk BK134), fun _ => GW134.out, fun _ => GE134.out, fun _ => NB118_134.out, fun _ => NB134_118.out, fun _ => NB119_134.out, fun _ => NB134_119.out, fun h0_ => absurd ((hoff 26 (by kernel_rfl)).symm.trans h0_) (by decide), Q_X24_, fun _ => rfl, Q_PA, Q_PB, Q_PC⟩
  refine yO ?_ ?_
  ·rintro b a w' ⟨v121, v125, v128, v132, gb134, m24_, m25_, ha, Q_BK118, Q_BK119, Q_HB, Q_HO122, Q_HO126, Q_HO129, Q_HO133, Q_BK134, Q_GW134, Q_GE134, Q_NB118_134, Q_NB134_118, Q_NB119_134, Q_NB134_119, Q_BK134_e26, Q_X24_, Q_X25_, Q_PA, Q_PB, Q_PC⟩ hb_ hon hoff
   refine ⟨_, rfl, fun K hK => ?_⟩
   have e7 : a.tmps[7]? = some (m25_) := by rw [ha]; exact xk (e := (25, 7, m25_)) 17 rfl rfl (hon 25 (by kernel_rfl)) rfl
   rw [Q_X25_ (hon 25 (by kernel_rfl))] at e7
   have e36 : a.tmps[36]? = some (m24_) := by rw [ha]; exact xk (e := (24, 36, m24_)) 16 rfl rfl (hon 24 (by kernel_rfl)) rfl
   rw [Q_X24_ (hon 24 (by kernel_rfl))] at e36
   replace ha := aS ha
   have BK118 := aS Q_BK118
   have BK119 := aS Q_BK119
   have HB := aS Q_HB
   have HO126 := aS (Q_HO126 (hon 13 (by kernel_rfl)))
   have HO133 := aS (Q_HO133 (hon 23 (by kernel_rfl)))
   have BK134 := aS (Q_BK134 (hon 25 (by kernel_rfl)) hb_)
   have GW134 := aS (Q_GW134 (hon 25 (by kernel_rfl)))
   have GE134 := aS (Q_GE134 (hon 25 (by kernel_rfl)))
   have NB118_134 := aS (Q_NB118_134 (hon 25 (by kernel_rfl)))
   have NB134_118 := aS (Q_NB134_118 (hon 25 (by kernel_rfl)))
   have NB119_134 := aS (Q_NB119_134 (hon 25 (by kernel_rfl)))
   have NB134_119 := aS (Q_NB134_119 (hon 25 (by kernel_rfl)))
   obtain ⟨Ao28, co28, eo28⟩ := Kd.zB HO133.out
   (first | subst eo28 | (injection eo28 with f1_ f2_ f3_; have f4_ := f1_.symm; have f5_ := f3_.symm; clear f1_ f2_ f3_; subst f4_; subst f5_))
   obtain ⟨Ao29, co29, eo29⟩ := Kd.zB HO126.out
   (first | subst eo29 | (injection eo29 with f1_ f2_ f3_; have f4_ := f1_.symm; have f5_ := f3_.symm; clear f1_ f2_ f3_; subst f4_; subst f5_))
   have hs30 : w'.cell? ⟨gb134, 0, none⟩ = some (.int .i64 0) := (za BK134.out 0).trans rfl
   have hfs30 := zn BK134.out 0
   have hns30_0 := NB118_134.out
   have hns30_1 := NB119_134.out
   have hms30_0 := NB134_118.out
   have hms30_1 := NB134_119.out
   have hs31 : w'.cell? ⟨gb134, 1, none⟩ = some (.bool false) := (za BK134.out 1).trans rfl
   have hfs31 := zn BK134.out 1
   have hns31_0 := NB118_134.out
   have hns31_1 := NB119_134.out
   have hms31_0 := NB134_118.out
   have hms31_1 := NB134_119.out
   have hs32 : w'.cell? ⟨gb134, 2, none⟩ = some (.slice none 0 0) := (za BK134.out 2).trans rfl
   have hfs32 := zn BK134.out 2
   have hns32_0 := NB118_134.out
   have hns32_1 := NB119_134.out
   have hms32_0 := NB134_118.out
   have hms32_1 := NB134_119.out
   have hs33 : w'.cell? ⟨gb134, 3, none⟩ = some (.slice none 0 0) := (za BK134.out 3).trans rfl
   have hfs33 := zn BK134.out 3
   have hns33_0 := NB118_134.out
   have hns33_1 := NB119_134.out
   have hms33_0 := NB134_118.out
   have hms33_1 := NB134_119.out
   refine z1Z (w1 := ?_) (by rfl) rfl ?_ ?_
   rotate_left
   ·go_simp
    rfl
   refine hK.out _ _ ⟨v121, .slice Ao29 y124.length co29, v128, .slice Ao28 y131.length co28, gb134, m24_, m25_, (by rw [ha.out]; exact z73 (v := undef) rfl), (bj BK118), (bj BK119), (bl HB), fun _ h1_ => absurd ((hon 13 (by kernel_rfl)).symm.trans h1_) (by decide), fun _ => (by exact Kd.zw (rF (Kd.xh HO126.out BK134.out (by decide))) (fun _ hk => hk.1)), fun _ h1_ => absurd ((hon 23 (by kernel_rfl)).symm.trans h1_) (by decide), fun _ => (by exact Kd.zw (rF (Kd.xh HO133.out BK134.out (by decide))) (fun _ hk => hk.1)), fun _ h1_ => absurd ((z1u b 26).symm.trans h1_) (by decide), fun _ => GW134.out, fun _ => GE134.out, fun _ => NB118_134.out, fun _ => NB134_118.out, fun _ => NB119_134.out, fun _ => NB134_119.out, fun _ => (bp BK134), Q_X24_, Q_X25_, Q_PA, Q_PB, Q_PC⟩
  exact z9w
 rintro b a w31 hall ⟨v121, v125, v128, v132, gb134, m24_, m25_, ha, Q_BK118, Q_BK119, Q_HB, Q_HO122, Q_HO126, Q_HO129, Q_HO133, Q_BK134, Q_GW134, Q_GE134, Q_NB118_134, Q_NB134_118, Q_NB119_134, Q_NB134_119, Q_BK134_e26, Q_X24_, Q_X25_, Q_PA, Q_PB, Q_PC⟩
 clear BK118 BK119 HB
 have hb1_ := hall 1 (by kernel_rfl)
 have hb3_ := hall 3 (by kernel_rfl)
 have hb4_ := hall 4 (by kernel_rfl)
 have hb6_ := hall 6 (by kernel_rfl)
 have hb8_ := hall 8 (by kernel_rfl)
 have hb9_ := hall 9 (by kernel_rfl)
 have hb11_ := hall 11 (by kernel_rfl)
 have hb12_ := hall 12 (by kernel_rfl)
 have hb13_ := hall 13 (by kernel_rfl)
 have hb14_ := hall 14 (by kernel_rfl)
 have hb16_ := hall 16 (by kernel_rfl)
 have hb18_ := hall 18 (by kernel_rfl)
 have hb19_ := hall 19 (by kernel_rfl)
 have hb21_ := hall 21 (by kernel_rfl)
 have hb22_ := hall 22 (by kernel_rfl)
 have hb23_ := hall 23 (by kernel_rfl)
 have hb24_ := hall 24 (by kernel_rfl)
 have hb25_ := hall 25 (by kernel_rfl)
 have hb26_ := hall 26 (by kernel_rfl)
 subst ha
 obtain rfl := Q_X24_ hb24_
 obtain rfl := Q_X25_ hb25_
 simp only [xZ, hb1_, hb3_, hb4_, hb6_, hb8_, hb9_, hb11_, hb12_, hb13_, hb14_, hb16_, hb18_, hb19_, hb21_, hb22_, hb23_, hb24_, hb25_, hb26_, if_true, Act.put, List.setIfInBounds_toArray, List.set_cons_zero, List.set_cons_succ]
 have BK118 := aS Q_BK118
 clear Q_BK118
 have BK119 := aS Q_BK119
 clear Q_BK119
 have HB := aS Q_HB
 clear Q_HB
 clear Q_HO122
 have HO126 := aS (Kd.z3L (ok' := fun k => some k ≠ (v132 : Value).ownBlock) (fun h => h) (Q_HO126 hb13_) (fun k hk _ => z8l (Q_PC hb13_ hb23_) hk))
 clear Q_HO126
 clear Q_HO129
 have HO133 := aS (Kd.z3L (ok' := fun k => some k ≠ (v125 : Value).ownBlock) (fun h => h) (Q_HO133 hb23_) (fun k hk _ => z4D (Q_PC hb13_ hb23_) hk))
 clear Q_HO133
 clear Q_BK134
 have GW134 := aS (Q_GW134 hb25_)
 clear Q_GW134
 have GE134 := aS (Q_GE134 hb25_)
 clear Q_GE134
 have NB118_134 := aS (Q_NB118_134 hb25_)
 clear Q_NB118_134
 have NB134_118 := aS (Q_NB134_118 hb25_)
 clear Q_NB134_118
 have NB119_134 := aS (Q_NB119_134 hb25_)
 clear Q_NB119_134
 have NB134_119 := aS (Q_NB134_119 hb25_)
 clear Q_NB134_119
 have BK134 := aS (Q_BK134_e26 hb26_)
 clear Q_BK134_e26
 clear hall hb1_ hb3_ hb4_ hb6_ hb8_ hb9_ hb11_ hb12_ hb13_ hb14_ hb16_ hb18_ hb19_ hb21_ hb22_ hb23_ hb24_ hb25_ hb26_
 obtain ⟨Ao32, co32, eo32⟩ := Kd.zB HO133.out
 (first | subst eo32 | (injection eo32 with f1_ f2_ f3_; have f4_ := f1_.symm; have f5_ := f3_.symm; clear f1_ f2_ f3_; subst f4_; subst f5_))
 obtain ⟨Ao33, co33, eo33⟩ := Kd.zB HO126.out
 (first | subst eo33 | (injection eo33 with f1_ f2_ f3_; have f4_ := f1_.symm; have f5_ := f3_.symm; clear f1_ f2_ f3_; subst f4_; subst f5_))
 try go_wp2
 replace HO126 := aS (Kd.xu HO126.out)
 replace HO133 := aS (Kd.xu HO133.out)
 replace BK118 := aS (yb BK118.out)
 replace BK119 := aS (yb BK119.out)
 replace BK134 := aS (yb BK134.out)
 replace HB := aS (zD HB.out)
 refine z16 (n := 10) (S := fun w' => w'.cell? ⟨gb134, 0, none⟩ = some (.int .i64 a0_0) ∧ w'.cell? ⟨gb134, 1, none⟩ = some (.bool a0_1) ∧ w'.cell? ⟨gb134, 2, none⟩ = some (.slice Ao33 y124.length co33) ∧ w'.cell? ⟨gb134, 3, none⟩ = some (.slice Ao32 y131.length co32)) (ds := []) (mk 10 0) (by kernel_rfl) rfl (by kernel_rfl) ⟨(za BK134.out 0).trans rfl, (za BK134.out 1).trans rfl, (za BK134.out 2).trans rfl, (za BK134.out 3).trans rfl⟩ (fun hHeld => ?_); refine z0K zy.zem zy.zdu (fun HT_ HW_ => ?_)
 generalize w31.drew = w34 at HO126 HO133 BK118 BK119 BK134 HB hHeld ⊢
 refine pv 1 38 (mk 10 2) ?_
 refine pv 4 41 (mk 10 18) ?_
 refine tv 0 37 (mk 10 19) hHeld ?_
 refine tv 2 39 (mk 10 23) hHeld ?_
 refine pv 3 40 (mk 10 31) ?_
 refine tv 5 42 (mk 10 63) hHeld ?_
 refine pv 6 43 (mk 10 127) ?_
 refine pv 7 44 (mk 10 255) ?_
 refine z0Z (i := 8) (N := none) (mk 10 511) rfl rfl (z0k HT_.out (by kernel_rfl)) (by decide) (fun K hK => ?_)
 have hs35 : w34.cell? ⟨gb119, 0, none⟩ = some (.int .i64 0) := (za BK119.out 0).trans rfl
 have hfs35 := zn BK119.out 0
 have hns35_0 := NB118_119.out
 have hns35_2 := NB134_119.out
 have hms35_0 := NB119_118.out
 have hms35_2 := NB119_134.out
 have hs36 : w34.cell? ⟨gb119, 1, none⟩ = some (.bool false) := (za BK119.out 1).trans rfl
 have hfs36 := zn BK119.out 1
 have hns36_0 := NB118_119.out
 have hns36_2 := NB134_119.out
 have hms36_0 := NB119_118.out
 have hms36_2 := NB119_134.out
 have hs37 : w34.cell? ⟨gb119, 2, none⟩ = some (.slice none 0 0) := (za BK119.out 2).trans rfl
 have hfs37 := zn BK119.out 2
 have hns37_0 := NB118_119.out
 have hns37_2 := NB134_119.out
 have hms37_0 := NB119_118.out
 have hms37_2 := NB119_134.out
 have hs38 : w34.cell? ⟨gb119, 3, none⟩ = some (.slice none 0 0) := (za BK119.out 3).trans rfl
 have hfs38 := zn BK119.out 3
 have hns38_0 := NB118_119.out
 have hns38_2 := NB134_119.out
 have hms38_0 := NB119_118.out
 have hms38_2 := NB119_134.out
 refine z1Z (w1 := ?_) (by rfl) rfl ?_ ?_
 rotate_left
 ·go_simp
  rfl
 refine hK.out _ _ ⟨((cell_far (p := ⟨gb119, _, none⟩) NB134_119.out _).trans (((cell_far (p := ⟨gb119, _, none⟩) NB134_119.out _).trans (((cell_far (p := ⟨gb119, _, none⟩) NB134_119.out _).trans (((cell_far (p := ⟨gb119, _, none⟩) NB134_119.out _).trans (hHeld.1)))))))), ((cell_far (p := ⟨gb119, _, none⟩) NB134_119.out _).trans (((cell_far (p := ⟨gb119, _, none⟩) NB134_119.out _).trans (((cell_far (p := ⟨gb119, _, none⟩) NB134_119.out _).trans (((cell_far (p := ⟨gb119, _, none⟩) NB134_119.out _).trans (hHeld.2.1)))))))), ((cell_far (p := ⟨gb119, _, none⟩) NB134_119.out _).trans (((cell_far (p := ⟨gb119, _, none⟩) NB134_119.out _).trans (((cell_far (p := ⟨gb119, _, none⟩) NB134_119.out _).trans (((cell_far (p := ⟨gb119, _, none⟩) NB134_119.out _).trans (hHeld.2.2.1)))))))), ((cell_far (p := ⟨gb119, _, none⟩) NB134_119.out _).trans (((cell_far (p := ⟨gb119, _, none⟩) NB134_119.out _).trans (((cell_far (p := ⟨gb119, _, none⟩) NB134_119.out _).trans (((cell_far (p := ⟨gb119, _, none⟩) NB134_119.out _).trans (hHeld.2.2.2))))))))⟩ (fun hHeld => ?_)
 clear hK K
 refine pv 9 5 (mk 10 1023) ?_
 refine z1U (z1L HT_.out (by kernel_rfl)) ?_
 try go_wp2
 refine bodyPost_ret (z2g rfl _ _ gb119 61 #[.int .i64 a0_0, .bool a0_1, .slice Ao33 y124.length co33, .slice Ao32 y131.length co32] (0, 0) _ rfl (bp BK119) Tryz.underlying61 rfl (by kernel_rfl)) rfl ?_
 exact ⟨_, _, by first | rfl | (simp [yY, yZ] <;> rfl) | (simp only [← hji3, ← hji4, ← hji5, ← hji9]; first | rfl | (simp [yY, yZ] <;> rfl)) | (simp [*, yY, yZ] <;> rfl), by exact Kd.zw (rF (Kd.xh HO126.out BK119.out (by decide))) (fun _ hk => hk.1), by exact Kd.zw (rF (Kd.xh HO133.out BK119.out (by decide))) (fun _ hk => hk.1), bl HB⟩
end
end Go.Proofs.QP

