import Derived.Test.YtbkknoipgmlcmaaGreatDoorQSXZ
import Derived.Test.YtbkknoipgmlcmaaGreatDoorQSP0
namespace Go.Proofs.YtbkknoipgmlcmaaGreatDoor.P
open Go.RowKit Go.Proofs.YtbkknoipgmlcmaaGreatDoorW.PrintWords Go.Proofs.YtbkknoipgmlcmaaGreatDoorW.PrintLast Go.Proofs.YtbkknoipgmlcmaaGreatDoorW.PrintMore
open Go.Proofs.FX
attribute [local go_sem] cell_twice le_add_cast
attribute [local go_sem] max2_int min2_int max_two min_two max_three min_three max_four min_four
set_option linter.unusedVariables false
set_option linter.unusedSimpArgs false
mutual
def fluxionref29_Equal.j0 : Nat → Bool → Int → Bool → List Int → List Int → Int → Bool → List Int → List Int → Option (Bool)
 | 0, _, _, _, _, _, _, _, _, _ => none
 | k + 1, x36, x175000, x175001, x175002, x175003, x176000, x176001, x176002, x176003 => if x36 = true then (some false) else (fluxionref29_Equal.l0 k (x175002.length : Int) 0 x175000 x175001 x175002 x175003 x176000 x176001 x176002 x176003)
def fluxionref29_Equal.l0 : Nat → Int → Int → Int → Bool → List Int → List Int → Int → Bool → List Int → List Int → Option (Bool)
 | 0, _, _, _, _, _, _, _, _, _, _ => none
 | k + 1, x39, x40, x175000, x175001, x175002, x175003, x176000, x176001, x176002, x176003 => if x40 < x39 then (if 0 ≤ x40 then (if x40 < (x175002.length : Int) then (if x40 < (x176002.length : Int) then (if (rd x175002 x40) = (rd x176002 x40) then (fluxionref29_Equal.l0 k x39 (wrap64 (x40 + 1)) x175000 x175001 x175002 x175003 x176000 x176001 x176002 x176003) else (some false)) else (none)) else (none)) else (none)) else (fluxionref29_Equal.l1 k (x175003.length : Int) 0 x175000 x175001 x175002 x175003 x176000 x176001 x176002 x176003)
def fluxionref29_Equal.l1 : Nat → Int → Int → Int → Bool → List Int → List Int → Int → Bool → List Int → List Int → Option (Bool)
 | 0, _, _, _, _, _, _, _, _, _, _ => none
 | k + 1, x57, x58, x175000, x175001, x175002, x175003, x176000, x176001, x176002, x176003 => if x58 < x57 then (if 0 ≤ x58 then (if x58 < (x175003.length : Int) then (if x58 < (x176003.length : Int) then (if (rd x175003 x58) = (rd x176003 x58) then (fluxionref29_Equal.l1 k x57 (wrap64 (x58 + 1)) x175000 x175001 x175002 x175003 x176000 x176001 x176002 x176003) else (some false)) else (none)) else (none)) else (none)) else (some true)
end
def fluxionref29_Equal.f (k : Nat) (a0_0 : Int) (a0_1 : Bool) (l0_2 : List Int) (l0_3 : List Int) (a1_0 : Int) (a1_1 : Bool) (l1_2 : List Int) (l1_3 : List Int) : Option (Bool) := if a0_0 = a1_0 then (if (a0_1 != a1_1) = true then (fluxionref29_Equal.j0 k true a0_0 a0_1 l0_2 l0_3 a1_0 a1_1 l1_2 l1_3) else (if (l0_2.length : Int) = (l1_2.length : Int) then (fluxionref29_Equal.j0 k ((l0_3.length : Int) != (l1_3.length : Int)) a0_0 a0_1 l0_2 l0_3 a1_0 a1_1 l1_2 l1_3) else (fluxionref29_Equal.j0 k true a0_0 a0_1 l0_2 l0_3 a1_0 a1_1 l1_2 l1_3))) else (fluxionref29_Equal.j0 k true a0_0 a0_1 l0_2 l0_3 a1_0 a1_1 l1_2 l1_3)
theorem fluxionref29_Equal.mono_l : ∀ k, (∀ y0 y1 y2 y3 y4 y5 y6 y7 y8, LeO (fluxionref29_Equal.j0 k y0 y1 y2 y3 y4 y5 y6 y7 y8) (fluxionref29_Equal.j0 (k + 1) y0 y1 y2 y3 y4 y5 y6 y7 y8)) ∧ (∀ y0 y1 y2 y3 y4 y5 y6 y7 y8 y9, LeO (fluxionref29_Equal.l0 k y0 y1 y2 y3 y4 y5 y6 y7 y8 y9) (fluxionref29_Equal.l0 (k + 1) y0 y1 y2 y3 y4 y5 y6 y7 y8 y9)) ∧ (∀ y0 y1 y2 y3 y4 y5 y6 y7 y8 y9, LeO (fluxionref29_Equal.l1 k y0 y1 y2 y3 y4 y5 y6 y7 y8 y9) (fluxionref29_Equal.l1 (k + 1) y0 y1 y2 y3 y4 y5 y6 y7 y8 y9))
 | 0 => ⟨fun _ _ _ _ _ _ _ _ _ r h => by simp [fluxionref29_Equal.j0] at h, fun _ _ _ _ _ _ _ _ _ _ r h => by simp [fluxionref29_Equal.l0] at h, fun _ _ _ _ _ _ _ _ _ _ r h => by simp [fluxionref29_Equal.l1] at h⟩
 | k + 1 => by
  obtain ⟨ih0, ih1, ih2⟩ := fluxionref29_Equal.mono_l k
  refine ⟨?_, ?_, ?_⟩
  ·intro y0 y1 y2 y3 y4 y5 y6 y7 y8
   unfold fluxionref29_Equal.j0
   repeat' first
   | (with_reducible exact ih0 _ _ _ _ _ _ _ _ _)
   | (with_reducible exact ih1 _ _ _ _ _ _ _ _ _ _)
   | (with_reducible exact ih2 _ _ _ _ _ _ _ _ _ _)
   | (with_reducible exact LeO.refl _)
   | (with_reducible exact LeO.none _)
   | (with_reducible refine LeO.ite ?_ ?_)
   | (with_reducible refine LeO.bind ?_ (fun _ => ?_))
   | exact ih0 _ _ _ _ _ _ _ _ _
   | exact ih1 _ _ _ _ _ _ _ _ _ _
   | exact ih2 _ _ _ _ _ _ _ _ _ _
   | exact LeO.none _
   | refine LeO.ite ?_ ?_
   | refine LeO.bind ?_ (fun _ => ?_)
  ·intro y0 y1 y2 y3 y4 y5 y6 y7 y8 y9
   unfold fluxionref29_Equal.l0
   repeat' first
   | (with_reducible exact ih0 _ _ _ _ _ _ _ _ _)
   | (with_reducible exact ih1 _ _ _ _ _ _ _ _ _ _)
   | (with_reducible exact ih2 _ _ _ _ _ _ _ _ _ _)
   | (with_reducible exact LeO.refl _)
   | (with_reducible exact LeO.none _)
   | (with_reducible refine LeO.ite ?_ ?_)
   | (with_reducible refine LeO.bind ?_ (fun _ => ?_))
   | exact ih0 _ _ _ _ _ _ _ _ _
   | exact ih1 _ _ _ _ _ _ _ _ _ _
   | exact ih2 _ _ _ _ _ _ _ _ _ _
   | exact LeO.none _
   | refine LeO.ite ?_ ?_
   | refine LeO.bind ?_ (fun _ => ?_)
  ·intro y0 y1 y2 y3 y4 y5 y6 y7 y8 y9
   unfold fluxionref29_Equal.l1
   repeat' first
   | (with_reducible exact ih0 _ _ _ _ _ _ _ _ _)
   | (with_reducible exact ih1 _ _ _ _ _ _ _ _ _ _)
   | (with_reducible exact ih2 _ _ _ _ _ _ _ _ _ _)
   | (with_reducible exact LeO.refl _)
   | (with_reducible exact LeO.none _)
   | (with_reducible refine LeO.ite ?_ ?_)
   | (with_reducible refine LeO.bind ?_ (fun _ => ?_))
   | exact ih0 _ _ _ _ _ _ _ _ _
   | exact ih1 _ _ _ _ _ _ _ _ _ _
   | exact ih2 _ _ _ _ _ _ _ _ _ _
   | exact LeO.none _
   | refine LeO.ite ?_ ?_
   | refine LeO.bind ?_ (fun _ => ?_)
theorem fluxionref29_Equal.mono : ∀ a0 a1 a2 a3 a4 a5 a6 a7 k, LeO (fluxionref29_Equal.f k a0 a1 a2 a3 a4 a5 a6 a7) (fluxionref29_Equal.f (k + 1) a0 a1 a2 a3 a4 a5 a6 a7) := by
 intro a0 a1 a2 a3 a4 a5 a6 a7 k
 obtain ⟨ih0, ih1, ih2⟩ := fluxionref29_Equal.mono_l k
 unfold fluxionref29_Equal.f
 repeat' first
   | (with_reducible exact ih0 _ _ _ _ _ _ _ _ _)
   | (with_reducible exact ih1 _ _ _ _ _ _ _ _ _ _)
   | (with_reducible exact ih2 _ _ _ _ _ _ _ _ _ _)
   | (with_reducible exact LeO.refl _)
   | (with_reducible exact LeO.none _)
   | (with_reducible refine LeO.ite ?_ ?_)
   | (with_reducible refine LeO.bind ?_ (fun _ => ?_))
   | exact ih0 _ _ _ _ _ _ _ _ _
   | exact ih1 _ _ _ _ _ _ _ _ _ _
   | exact ih2 _ _ _ _ _ _ _ _ _ _
   | exact LeO.none _
   | refine LeO.ite ?_ ?_
   | refine LeO.bind ?_ (fun _ => ?_)
set_option maxHeartbeats 8000000 in
set_option maxRecDepth 100000 in
theorem fluxionref29_Equal.calls (k : Nat) (a0_0 : Int) (a0_1 : Bool) (A0_2 : Option Addr) (c0_2 : Nat) (l0_2 : List Int) (A0_3 : Option Addr) (c0_3 : Nat) (l0_3 : List Int) (a1_0 : Int) (a1_1 : Bool) (A1_2 : Option Addr) (c1_2 : Nat) (l1_2 : List Int) (A1_3 : Option Addr) (c1_3 : Nat) (l1_3 : List Int) (r : Bool) (w : World) (hr0_2 : Kd.C (Kd.int .u32) w A0_2 l0_2.length l0_2) (hc0_2 : l0_2.length ≤ c0_2) (hr0_3 : Kd.C (Kd.int .u32) w A0_3 l0_3.length l0_3) (hc0_3 : l0_3.length ≤ c0_3) (hr1_2 : Kd.C (Kd.int .u32) w A1_2 l1_2.length l1_2) (hc1_2 : l1_2.length ≤ c1_2) (hr1_3 : Kd.C (Kd.int .u32) w A1_3 l1_3.length l1_3) (hc1_3 : l1_3.length ≤ c1_3) (h : fluxionref29_Equal.f k a0_0 a0_1 l0_2 l0_3 a1_0 a1_1 l1_2 l1_3 = some r) :
  Calls Tryz.prog 37 #[.agg #[.int .i64 a0_0, .bool a0_1, .slice A0_2 l0_2.length c0_2, .slice A0_3 l0_3.length c0_3], .agg #[.int .i64 a1_0, .bool a1_1, .slice A1_2 l1_2.length c1_2, .slice A1_3 l1_3.length c1_3]] w fun e w' => e = .returned (.bool r) ∧ Below w.heap.size w w' := by
 have hu61 := Tryz.underlying61
 have HR0_2 := Aside0.mk hr0_2
 have HC0_2 := Aside0.mk hc0_2
 clear hr0_2 hc0_2
 have HR0_3 := Aside0.mk hr0_3
 have HC0_3 := Aside0.mk hc0_3
 clear hr0_3 hc0_3
 have HR1_2 := Aside0.mk hr1_2
 have HC1_2 := Aside0.mk hc1_2
 clear hr1_2 hc1_2
 have HR1_3 := Aside0.mk hr1_3
 have HC1_3 := Aside0.mk hc1_3
 clear hr1_3 hc1_3
 have HB := Aside0.mk (Below.refl w.heap.size w)
 have H : (if a0_0 = a1_0 then (if (a0_1 != a1_1) = true then (fluxionref29_Equal.j0 k true a0_0 a0_1 l0_2 l0_3 a1_0 a1_1 l1_2 l1_3) else (if (l0_2.length : Int) = (l1_2.length : Int) then (fluxionref29_Equal.j0 k ((l0_3.length : Int) != (l1_3.length : Int)) a0_0 a0_1 l0_2 l0_3 a1_0 a1_1 l1_2 l1_3) else (fluxionref29_Equal.j0 k true a0_0 a0_1 l0_2 l0_3 a1_0 a1_1 l1_2 l1_3))) else (fluxionref29_Equal.j0 k true a0_0 a0_1 l0_2 l0_3 a1_0 a1_1 l1_2 l1_3)) = some r := h
 clear h
 have HC3 := Aside0.mk H
 clear H
 go_enter Tryz.func37, Tryz.ntmps37
 go_upto_region 1 with (first | ((with_reducible refine gate_dst (N := 2) rfl ?_); (try (refine gate_guard (by rfl) ?_; dsimp only)); refine bx (N := 2) (cs := #[.int .i64 a0_0, .bool a0_1, .slice A0_2 l0_2.length c0_2, .slice A0_3 l0_3.length c0_3]) (t := 61) ?_; intro gb174 hg w4 hbox hb; have BK174 := Aside0.mk (hbox); have GW174 := (gz hg HB : Aside0 (w.heap.size ≤ gb174)); have GE174 := (gz hg HB : Aside0 (w.heap.size ≤ gb174)); replace HB := Aside0.mk (below_step (bl HB) hb); clear hb hbox hg) | ((with_reducible refine gate_dst (N := 3) rfl ?_); (try (refine gate_guard (by rfl) ?_; dsimp only)); refine bx (N := 3) (cs := #[.int .i64 a1_0, .bool a1_1, .slice A1_2 l1_2.length c1_2, .slice A1_3 l1_3.length c1_3]) (t := 61) ?_; intro gb175 hg w5 hbox hb; have n0_ := Aside0.mk (blk_below (g := gb174) (o := .cells #[.int .i64 a0_0, .bool a0_1, .slice A0_2 l0_2.length c0_2, .slice A0_3 l0_3.length c0_3] 61 (0, 0)) (bk BK174) hb); have n1_ := Aside0.mk (below_step (bl HB) hb); have n2_ := Aside0.mk (hbox); have n3_ := (gz hg HB : Aside0 (w.heap.size ≤ gb175)); have n4_ := (gz hg HB : Aside0 (w.heap.size ≤ gb175)); have n5_ := Aside0.mk ((by rw [hg]; exact Nat.ne_of_lt (blk_lt (g := gb174) (o := .cells #[.int .i64 a0_0, .bool a0_1, .slice A0_2 l0_2.length c0_2, .slice A0_3 l0_3.length c0_3] 61 (0, 0)) (bk BK174)) : gb174 ≠ gb175)); have n6_ := Aside0.mk ((by rw [hg]; exact Nat.ne_of_gt (blk_lt (g := gb174) (o := .cells #[.int .i64 a0_0, .bool a0_1, .slice A0_2 l0_2.length c0_2, .slice A0_3 l0_3.length c0_3] 61 (0, 0)) (bk BK174)) : gb175 ≠ gb174)); clear BK174; clear HB; have BK174 := n0_; have HB := n1_; have BK175 := n2_; have GW175 := n3_; have GE175 := n4_; have NB174_175 := n5_; have NB175_174 := n6_; clear n0_ n1_ n2_ n3_ n4_ n5_ n6_; clear hb hbox hg))
 repeat (go_quiet (first | ((with_reducible refine gate_dst (N := 2) rfl ?_); (try (refine gate_guard (by rfl) ?_; dsimp only)); refine bx (N := 2) (cs := #[.int .i64 a0_0, .bool a0_1, .slice A0_2 l0_2.length c0_2, .slice A0_3 l0_3.length c0_3]) (t := 61) ?_; intro gb174 hg w4 hbox hb; have n0_ := Aside0.mk (below_step (bl HB) hb); have n1_ := Aside0.mk (hbox); have n2_ := (gz hg HB : Aside0 (w.heap.size ≤ gb174)); have n3_ := (gz hg HB : Aside0 (w.heap.size ≤ gb174)); clear HB; have HB := n0_; have BK174 := n1_; have GW174 := n2_; have GE174 := n3_; clear n0_ n1_ n2_ n3_; clear hb hbox hg) | ((with_reducible refine gate_dst (N := 3) rfl ?_); (try (refine gate_guard (by rfl) ?_; dsimp only)); refine bx (N := 3) (cs := #[.int .i64 a1_0, .bool a1_1, .slice A1_2 l1_2.length c1_2, .slice A1_3 l1_3.length c1_3]) (t := 61) ?_; intro gb175 hg w5 hbox hb; have n0_ := Aside0.mk (blk_below (g := gb174) (o := .cells #[.int .i64 a0_0, .bool a0_1, .slice A0_2 l0_2.length c0_2, .slice A0_3 l0_3.length c0_3] 61 (0, 0)) (bk BK174) hb); have n1_ := Aside0.mk (below_step (bl HB) hb); have n2_ := Aside0.mk (hbox); have n3_ := (gz hg HB : Aside0 (w.heap.size ≤ gb175)); have n4_ := (gz hg HB : Aside0 (w.heap.size ≤ gb175)); have n5_ := Aside0.mk ((by rw [hg]; exact Nat.ne_of_lt (blk_lt (g := gb174) (o := .cells #[.int .i64 a0_0, .bool a0_1, .slice A0_2 l0_2.length c0_2, .slice A0_3 l0_3.length c0_3] 61 (0, 0)) (bk BK174)) : gb174 ≠ gb175)); have n6_ := Aside0.mk ((by rw [hg]; exact Nat.ne_of_gt (blk_lt (g := gb174) (o := .cells #[.int .i64 a0_0, .bool a0_1, .slice A0_2 l0_2.length c0_2, .slice A0_3 l0_3.length c0_3] 61 (0, 0)) (bk BK174)) : gb175 ≠ gb174)); clear BK174; clear HB; have BK174 := n0_; have HB := n1_; have BK175 := n2_; have GW175 := n3_; have GE175 := n4_; have NB174_175 := n5_; have NB175_174 := n6_; clear n0_ n1_ n2_ n3_ n4_ n5_ n6_; clear hb hbox hg)); go_upto_region 1 with (first | ((with_reducible refine gate_dst (N := 2) rfl ?_); (try (refine gate_guard (by rfl) ?_; dsimp only)); refine bx (N := 2) (cs := #[.int .i64 a0_0, .bool a0_1, .slice A0_2 l0_2.length c0_2, .slice A0_3 l0_3.length c0_3]) (t := 61) ?_; intro gb174 hg w4 hbox hb; have n0_ := Aside0.mk (below_step (bl HB) hb); have n1_ := Aside0.mk (hbox); have n2_ := (gz hg HB : Aside0 (w.heap.size ≤ gb174)); have n3_ := (gz hg HB : Aside0 (w.heap.size ≤ gb174)); clear HB; have HB := n0_; have BK174 := n1_; have GW174 := n2_; have GE174 := n3_; clear n0_ n1_ n2_ n3_; clear hb hbox hg) | ((with_reducible refine gate_dst (N := 3) rfl ?_); (try (refine gate_guard (by rfl) ?_; dsimp only)); refine bx (N := 3) (cs := #[.int .i64 a1_0, .bool a1_1, .slice A1_2 l1_2.length c1_2, .slice A1_3 l1_3.length c1_3]) (t := 61) ?_; intro gb175 hg w5 hbox hb; have n0_ := Aside0.mk (blk_below (g := gb174) (o := .cells #[.int .i64 a0_0, .bool a0_1, .slice A0_2 l0_2.length c0_2, .slice A0_3 l0_3.length c0_3] 61 (0, 0)) (bk BK174) hb); have n1_ := Aside0.mk (below_step (bl HB) hb); have n2_ := Aside0.mk (hbox); have n3_ := (gz hg HB : Aside0 (w.heap.size ≤ gb175)); have n4_ := (gz hg HB : Aside0 (w.heap.size ≤ gb175)); have n5_ := Aside0.mk ((by rw [hg]; exact Nat.ne_of_lt (blk_lt (g := gb174) (o := .cells #[.int .i64 a0_0, .bool a0_1, .slice A0_2 l0_2.length c0_2, .slice A0_3 l0_3.length c0_3] 61 (0, 0)) (bk BK174)) : gb174 ≠ gb175)); have n6_ := Aside0.mk ((by rw [hg]; exact Nat.ne_of_gt (blk_lt (g := gb174) (o := .cells #[.int .i64 a0_0, .bool a0_1, .slice A0_2 l0_2.length c0_2, .slice A0_3 l0_3.length c0_3] 61 (0, 0)) (bk BK174)) : gb175 ≠ gb174)); clear BK174; clear HB; have BK174 := n0_; have HB := n1_; have BK175 := n2_; have GW175 := n3_; have GE175 := n4_; have NB174_175 := n5_; have NB175_174 := n6_; clear n0_ n1_ n2_ n3_ n4_ n5_ n6_; clear hb hbox hg)))
 (try simp only [Act.put, List.setIfInBounds_toArray, List.set_cons_zero, List.set_cons_succ])
 go_cut [36] (fun v36 wc => ∃ (kq : Nat) (x36_2 : Bool), v36 = .bool x36_2 ∧ Aside0 (fluxionref29_Equal.j0 kq x36_2 a0_0 a0_1 l0_2 l0_3 a1_0 a1_1 l1_2 l1_3 = some r) ∧ Aside0 (kq ≤ k) ∧ Aside0 (wc.heap[gb174]? = some (.cells #[.int .i64 a0_0, .bool a0_1, (.slice A0_2 l0_2.length c0_2), (.slice A0_3 l0_3.length c0_3)] 61 (0, 0))) ∧ Aside0 (wc.heap[gb175]? = some (.cells #[.int .i64 a1_0, .bool a1_1, (.slice A1_2 l1_2.length c1_2), (.slice A1_3 l1_3.length c1_3)] 61 (0, 0))) ∧ Aside0 (Below w.heap.size w wc))
 case first =>
  have H := HC3.out
  clear HC3
  by_cases c6 : a0_0 = a1_0
  ·rw [if_pos c6] at H
   have c6b0 : (a0_0 == a1_0) = true := beq_iff_eq.mpr c6
   have c6b1 : (a0_0 != a1_0) = false := bne_eq_false_iff_eq.mpr c6
   clear c6
   (first | rw [c6b0] | (simp only [i64_w, i32_w]; rw [c6b0]) | skip)
   by_cases c7 : (a0_1 != a1_1) = true
   ·rw [if_pos c7] at H
    have c7b0 : (a0_1 != a1_1) = true := c7
    (try (have c7b1 : decide (a0_1 = a1_1) = false := by simpa using c7))
    (try (have c7b2 : (a0_1 == a1_1) = false := by simpa using c7))
    (try (have c7b3 : ¬ (a0_1 = a1_1) := by simpa using c7))
    clear c7
    have H' := Aside0.mk H
    clear H
    have hnb8 := NB174_175.out
    have hnc8 := NB175_174.out
    have hcz9_0 := blk_cell BK174.out 0
    have hcz9_1 := blk_cell BK174.out 1
    have hcz9_2 := blk_cell BK174.out 2
    have hcz9_3 := blk_cell BK174.out 3
    have hfz9_0 := blk_frozen BK174.out 0
    have hfz9_1 := blk_frozen BK174.out 1
    have hfz9_2 := blk_frozen BK174.out 2
    have hfz9_3 := blk_frozen BK174.out 3
    have hcz10_0 := blk_cell BK175.out 0
    have hcz10_1 := blk_cell BK175.out 1
    have hcz10_2 := blk_cell BK175.out 2
    have hcz10_3 := blk_cell BK175.out 3
    have hfz10_0 := blk_frozen BK175.out 0
    have hfz10_1 := blk_frozen BK175.out 1
    have hfz10_2 := blk_frozen BK175.out 2
    have hfz10_3 := blk_frozen BK175.out 3
    go_wp2
    repeat (go_quiet (fail); try go_wp2)
    go_meet
    case rel => exact ⟨_, (true), rs, H', ⟨by first | omega | exact Nat.le_refl _⟩, ⟨bk BK174⟩, ⟨bk BK175⟩, ⟨bl HB⟩⟩
   ·rw [if_neg c7] at H
    have c7b0 : (a0_1 != a1_1) = false := by simpa using c7
    (try (have c7b1 : decide (a0_1 = a1_1) = true := by simpa using c7))
    (try (have c7b2 : (a0_1 == a1_1) = true := by simpa using c7))
    clear c7
    by_cases c11 : (l0_2.length : Int) = (l1_2.length : Int)
    ·rw [if_pos c11] at H
     have c11b0 : ((l0_2.length : Int) == (l1_2.length : Int)) = true := beq_iff_eq.mpr c11
     have c11b1 : ((l0_2.length : Int) != (l1_2.length : Int)) = false := bne_eq_false_iff_eq.mpr c11
     have c11b2 : (l0_2.length == l1_2.length) = true := by first | simpa using c11 | (simp at c11 ⊢; omega)
     clear c11
     have H' := Aside0.mk H
     clear H
     have hnb12 := NB174_175.out
     have hnc12 := NB175_174.out
     have hcz13_0 := blk_cell BK174.out 0
     have hcz13_1 := blk_cell BK174.out 1
     have hcz13_2 := blk_cell BK174.out 2
     have hcz13_3 := blk_cell BK174.out 3
     have hfz13_0 := blk_frozen BK174.out 0
     have hfz13_1 := blk_frozen BK174.out 1
     have hfz13_2 := blk_frozen BK174.out 2
     have hfz13_3 := blk_frozen BK174.out 3
     have hcz14_0 := blk_cell BK175.out 0
     have hcz14_1 := blk_cell BK175.out 1
     have hcz14_2 := blk_cell BK175.out 2
     have hcz14_3 := blk_cell BK175.out 3
     have hfz14_0 := blk_frozen BK175.out 0
     have hfz14_1 := blk_frozen BK175.out 1
     have hfz14_2 := blk_frozen BK175.out 2
     have hfz14_3 := blk_frozen BK175.out 3
     go_wp2
     repeat (go_quiet (fail); try go_wp2)
     go_meet
     case rel => exact ⟨_, (((l0_3.length : Int) != (l1_3.length : Int))), rs, H', ⟨by first | omega | exact Nat.le_refl _⟩, ⟨bk BK174⟩, ⟨bk BK175⟩, ⟨bl HB⟩⟩
    ·rw [if_neg c11] at H
     have c11b0 : ((l0_2.length : Int) == (l1_2.length : Int)) = false := beq_eq_false_iff_ne.mpr c11
     have c11b1 : ((l0_2.length : Int) != (l1_2.length : Int)) = true := bne_iff_ne.mpr c11
     have c11b2 : (l0_2.length == l1_2.length) = false := by first | simpa using c11 | (simp at c11 ⊢; omega)
     have H' := Aside0.mk H
     clear H
     have hnb15 := NB174_175.out
     have hnc15 := NB175_174.out
     have hcz16_0 := blk_cell BK174.out 0
     have hcz16_1 := blk_cell BK174.out 1
     have hcz16_2 := blk_cell BK174.out 2
     have hcz16_3 := blk_cell BK174.out 3
     have hfz16_0 := blk_frozen BK174.out 0
     have hfz16_1 := blk_frozen BK174.out 1
     have hfz16_2 := blk_frozen BK174.out 2
     have hfz16_3 := blk_frozen BK174.out 3
     have hcz17_0 := blk_cell BK175.out 0
     have hcz17_1 := blk_cell BK175.out 1
     have hcz17_2 := blk_cell BK175.out 2
     have hcz17_3 := blk_cell BK175.out 3
     have hfz17_0 := blk_frozen BK175.out 0
     have hfz17_1 := blk_frozen BK175.out 1
     have hfz17_2 := blk_frozen BK175.out 2
     have hfz17_3 := blk_frozen BK175.out 3
     go_wp2
     repeat (go_quiet (fail); try go_wp2)
     go_meet
     case rel => exact ⟨_, (true), rs, H', ⟨by first | omega | exact Nat.le_refl _⟩, ⟨bk BK174⟩, ⟨bk BK175⟩, ⟨bl HB⟩⟩
  ·rw [if_neg c6] at H
   have c6b0 : (a0_0 == a1_0) = false := beq_eq_false_iff_ne.mpr c6
   have c6b1 : (a0_0 != a1_0) = true := bne_iff_ne.mpr c6
   (first | rw [c6b0] | (simp only [i64_w, i32_w]; rw [c6b0]) | skip)
   have H' := Aside0.mk H
   clear H
   have hnb18 := NB174_175.out
   have hnc18 := NB175_174.out
   have hcz19_0 := blk_cell BK174.out 0
   have hcz19_1 := blk_cell BK174.out 1
   have hcz19_2 := blk_cell BK174.out 2
   have hcz19_3 := blk_cell BK174.out 3
   have hfz19_0 := blk_frozen BK174.out 0
   have hfz19_1 := blk_frozen BK174.out 1
   have hfz19_2 := blk_frozen BK174.out 2
   have hfz19_3 := blk_frozen BK174.out 3
   have hcz20_0 := blk_cell BK175.out 0
   have hcz20_1 := blk_cell BK175.out 1
   have hcz20_2 := blk_cell BK175.out 2
   have hcz20_3 := blk_cell BK175.out 3
   have hfz20_0 := blk_frozen BK175.out 0
   have hfz20_1 := blk_frozen BK175.out 1
   have hfz20_2 := blk_frozen BK175.out 2
   have hfz20_3 := blk_frozen BK175.out 3
   go_wp2
   repeat (go_quiet (fail); try go_wp2)
   go_meet
   case rel => exact ⟨_, (true), rs, H', ⟨by first | omega | exact Nat.le_refl _⟩, ⟨bk BK174⟩, ⟨bk BK175⟩, ⟨bl HB⟩⟩
 case rest =>
  clear HC3
  (try clear c1); (try clear p2); (try clear c3); (try clear c6); (try clear c6b0); (try clear c6b1); (try clear c7); (try clear c7b0); (try clear c7b1); (try clear c7b2); (try clear c8); (try clear c11); (try clear c11b0); (try clear c11b1); (try clear c11b2); (try clear c12); (try clear c15); (try clear c18); (try clear hcz10_0); (try clear hcz10_1); (try clear hcz10_2); (try clear hcz10_3); (try clear hcz13_0); (try clear hcz13_1); (try clear hcz13_2); (try clear hcz13_3); (try clear hcz14_0); (try clear hcz14_1); (try clear hcz14_2); (try clear hcz14_3); (try clear hcz16_0); (try clear hcz16_1); (try clear hcz16_2); (try clear hcz16_3); (try clear hcz17_0); (try clear hcz17_1); (try clear hcz17_2); (try clear hcz17_3); (try clear hcz19_0); (try clear hcz19_1); (try clear hcz19_2); (try clear hcz19_3); (try clear hcz20_0); (try clear hcz20_1); (try clear hcz20_2); (try clear hcz20_3); (try clear hcz9_0); (try clear hcz9_1); (try clear hcz9_2); (try clear hcz9_3); (try clear hfz10_0); (try clear hfz10_1); (try clear hfz10_2); (try clear hfz10_3); (try clear hfz13_0); (try clear hfz13_1); (try clear hfz13_2); (try clear hfz13_3); (try clear hfz14_0); (try clear hfz14_1); (try clear hfz14_2); (try clear hfz14_3); (try clear hfz16_0); (try clear hfz16_1); (try clear hfz16_2); (try clear hfz16_3); (try clear hfz17_0); (try clear hfz17_1); (try clear hfz17_2); (try clear hfz17_3); (try clear hfz19_0); (try clear hfz19_1); (try clear hfz19_2); (try clear hfz19_3); (try clear hfz20_0); (try clear hfz20_1); (try clear hfz20_2); (try clear hfz20_3); (try clear hfz9_0); (try clear hfz9_1); (try clear hfz9_2); (try clear hfz9_3)
  obtain ⟨kq, x36_2, rfl, HA, HJ2, BK174, BK175, HB⟩ := hcut
  cases kq with
  | zero => exact absurd HA.out (by simp [fluxionref29_Equal.j0])
  | succ kj2 =>
   have H := HA.out
   clear HA
   simp only [fluxionref29_Equal.j0] at H
   by_cases c21 : x36_2 = true
   ·subst c21
    have H1 : (some false) = some r := by rw [if_pos rfl] at H; exact H
    clear H
    have H := H1
    clear H1
    obtain rfl := Option.some.inj H
    go_wp2
    repeat (go_quiet (fail); try go_wp2)
    go_ret
    exact ⟨re, bl HB⟩
   ·replace c21 := Bool.eq_false_iff.mpr c21
    subst c21
    have H1 : (fluxionref29_Equal.l0 kj2 (l0_2.length : Int) 0 a0_0 a0_1 l0_2 l0_3 a1_0 a1_1 l1_2 l1_3) = some r := by rw [if_neg (show ¬ (false = true) by decide)] at H; exact H
    clear H
    have H := H1
    clear H1
    have H' := Aside0.mk H
    clear H
    have hnb22 := NB174_175.out
    have hnc22 := NB175_174.out
    have hcz23_0 := blk_cell BK174.out 0
    have hcz23_1 := blk_cell BK174.out 1
    have hcz23_2 := blk_cell BK174.out 2
    have hcz23_3 := blk_cell BK174.out 3
    have hfz23_0 := blk_frozen BK174.out 0
    have hfz23_1 := blk_frozen BK174.out 1
    have hfz23_2 := blk_frozen BK174.out 2
    have hfz23_3 := blk_frozen BK174.out 3
    go_wp2
    repeat (go_quiet (fail); try go_wp2)
    go_loopg [40] kj2 (fun kq v40 w' => ∃ (x40_2 : Int), v40 = .int .i64 x40_2 ∧ Aside0 (fluxionref29_Equal.l0 kq (l0_2.length : Int) x40_2 a0_0 a0_1 l0_2 l0_3 a1_0 a1_1 l1_2 l1_3 = some r) ∧ Aside0 (kq ≤ kj2) ∧ Aside0 (w'.heap[gb174]? = some (.cells #[.int .i64 a0_0, .bool a0_1, (.slice A0_2 l0_2.length c0_2), (.slice A0_3 l0_3.length c0_3)] 61 (0, 0))) ∧ Aside0 (w'.heap[gb175]? = some (.cells #[.int .i64 a1_0, .bool a1_1, (.slice A1_2 l1_2.length c1_2), (.slice A1_3 l1_3.length c1_3)] 61 (0, 0))) ∧ Aside0 (Below w.heap.size w w'))
    case atStart => exact ⟨(0), rs, H', ⟨Nat.le_refl _⟩, ⟨bk BK174⟩, ⟨bk BK175⟩, ⟨bl HB⟩⟩
    case round =>
     clear H'
     (try clear c1); (try clear c2); (try clear p2); (try clear c3); (try clear c6); (try clear c6b0); (try clear c6b1); (try clear c7); (try clear c7b0); (try clear c7b1); (try clear c7b2); (try clear c8); (try clear c11); (try clear c11b0); (try clear c11b1); (try clear c11b2); (try clear c12); (try clear c15); (try clear c18); (try clear c21); (try clear c22); (try clear hcz10_0); (try clear hcz10_1); (try clear hcz10_2); (try clear hcz10_3); (try clear hcz13_0); (try clear hcz13_1); (try clear hcz13_2); (try clear hcz13_3); (try clear hcz14_0); (try clear hcz14_1); (try clear hcz14_2); (try clear hcz14_3); (try clear hcz16_0); (try clear hcz16_1); (try clear hcz16_2); (try clear hcz16_3); (try clear hcz17_0); (try clear hcz17_1); (try clear hcz17_2); (try clear hcz17_3); (try clear hcz19_0); (try clear hcz19_1); (try clear hcz19_2); (try clear hcz19_3); (try clear hcz20_0); (try clear hcz20_1); (try clear hcz20_2); (try clear hcz20_3); (try clear hcz23_0); (try clear hcz23_1); (try clear hcz23_2); (try clear hcz23_3); (try clear hcz9_0); (try clear hcz9_1); (try clear hcz9_2); (try clear hcz9_3); (try clear hfz10_0); (try clear hfz10_1); (try clear hfz10_2); (try clear hfz10_3); (try clear hfz13_0); (try clear hfz13_1); (try clear hfz13_2); (try clear hfz13_3); (try clear hfz14_0); (try clear hfz14_1); (try clear hfz14_2); (try clear hfz14_3); (try clear hfz16_0); (try clear hfz16_1); (try clear hfz16_2); (try clear hfz16_3); (try clear hfz17_0); (try clear hfz17_1); (try clear hfz17_2); (try clear hfz17_3); (try clear hfz19_0); (try clear hfz19_1); (try clear hfz19_2); (try clear hfz19_3); (try clear hfz20_0); (try clear hfz20_1); (try clear hfz20_2); (try clear hfz20_3); (try clear hfz23_0); (try clear hfz23_1); (try clear hfz23_2); (try clear hfz23_3); (try clear hfz9_0); (try clear hfz9_1); (try clear hfz9_2); (try clear hfz9_3); (try clear p2)
     obtain ⟨x40_2, rfl, HA, HK2, BK174, BK175, HB⟩ := hrel
     cases gk with
     | zero => exact absurd HA.out (by simp [fluxionref29_Equal.l0])
     | succ k2 =>
      have H := HA.out
      clear HA
      simp only [fluxionref29_Equal.l0] at H
      by_cases c24 : x40_2 < (l0_2.length : Int)
      ·rw [if_pos c24] at H
       have c24b0 : decide (x40_2 < (l0_2.length : Int)) = true := decide_eq_true c24
       clear c24
       by_cases c25 : 0 ≤ x40_2
       ·rw [if_pos c25] at H
        have c25b0 : decide (0 ≤ x40_2) = true := decide_eq_true c25
        clear c25
        by_cases c26 : x40_2 < (l0_2.length : Int)
        ·rw [if_pos c26] at H
         have c26b0 : decide (x40_2 < (l0_2.length : Int)) = true := decide_eq_true c26
         clear c26
         by_cases c27 : x40_2 < (l1_2.length : Int)
         ·rw [if_pos c27] at H
          have c27b0 : decide (x40_2 < (l1_2.length : Int)) = true := decide_eq_true c27
          clear c27
          by_cases c28 : (rd l0_2 x40_2) = (rd l1_2 x40_2)
          ·rw [if_pos c28] at H
           have c28b0 : ((rd l0_2 x40_2) == (rd l1_2 x40_2)) = true := beq_iff_eq.mpr c28
           have c28b1 : ((rd l0_2 x40_2) != (rd l1_2 x40_2)) = false := bne_eq_false_iff_eq.mpr c28
           clear c28
           have H' := Aside0.mk H
           clear H
           have hnb29 := NB174_175.out
           have hnc29 := NB175_174.out
           have hcz30_0 := blk_cell BK174.out 0
           have hcz30_1 := blk_cell BK174.out 1
           have hcz30_2 := blk_cell BK174.out 2
           have hcz30_3 := blk_cell BK174.out 3
           have hfz30_0 := blk_frozen BK174.out 0
           have hfz30_1 := blk_frozen BK174.out 1
           have hfz30_2 := blk_frozen BK174.out 2
           have hfz30_3 := blk_frozen BK174.out 3
           have p176 : 0 ≤ (x40_2 : Int) := oa
           have q176 : x40_2 < (l0_2.length : Int) := oa
           obtain ⟨ad176, e176, hx176_0⟩ := Kd.at_int HR0_2.out x40_2 p176 q176
           cases e176
           replace hx176_0 := xb HB hx176_0
           replace p176 := eq_true p176
           replace q176 := eq_true q176
           have hcz31_0 := blk_cell BK175.out 0
           have hcz31_1 := blk_cell BK175.out 1
           have hcz31_2 := blk_cell BK175.out 2
           have hcz31_3 := blk_cell BK175.out 3
           have hfz31_0 := blk_frozen BK175.out 0
           have hfz31_1 := blk_frozen BK175.out 1
           have hfz31_2 := blk_frozen BK175.out 2
           have hfz31_3 := blk_frozen BK175.out 3
           have p177 : 0 ≤ (x40_2 : Int) := oa
           have q177 : x40_2 < (l1_2.length : Int) := oa
           obtain ⟨ad177, e177, hx177_0⟩ := Kd.at_int HR1_2.out x40_2 p177 q177
           cases e177
           replace hx177_0 := xb HB hx177_0
           replace p177 := eq_true p177
           replace q177 := eq_true q177
           go_wp2
           repeat (go_quiet (fail); try go_wp2)
           go_roundg k2
           case measure => have := HJ2.out; have := HK2.out; omega
           case rel => exact ⟨(wrap64 (x40_2 + 1)), rs, H', ⟨by have := HJ2.out; have := HK2.out; omega⟩, ⟨bk BK174⟩, ⟨bk BK175⟩, ⟨bl HB⟩⟩
          ·rw [if_neg c28] at H
           have c28b0 : ((rd l0_2 x40_2) == (rd l1_2 x40_2)) = false := beq_eq_false_iff_ne.mpr c28
           have c28b1 : ((rd l0_2 x40_2) != (rd l1_2 x40_2)) = true := bne_iff_ne.mpr c28
           obtain rfl := Option.some.inj H
           have hnb32 := NB174_175.out
           have hnc32 := NB175_174.out
           have hcz33_0 := blk_cell BK174.out 0
           have hcz33_1 := blk_cell BK174.out 1
           have hcz33_2 := blk_cell BK174.out 2
           have hcz33_3 := blk_cell BK174.out 3
           have hfz33_0 := blk_frozen BK174.out 0
           have hfz33_1 := blk_frozen BK174.out 1
           have hfz33_2 := blk_frozen BK174.out 2
           have hfz33_3 := blk_frozen BK174.out 3
           have p176 : 0 ≤ (x40_2 : Int) := oa
           have q176 : x40_2 < (l0_2.length : Int) := oa
           obtain ⟨ad176, e176, hx176_0⟩ := Kd.at_int HR0_2.out x40_2 p176 q176
           cases e176
           replace hx176_0 := xb HB hx176_0
           replace p176 := eq_true p176
           replace q176 := eq_true q176
           have hcz34_0 := blk_cell BK175.out 0
           have hcz34_1 := blk_cell BK175.out 1
           have hcz34_2 := blk_cell BK175.out 2
           have hcz34_3 := blk_cell BK175.out 3
           have hfz34_0 := blk_frozen BK175.out 0
           have hfz34_1 := blk_frozen BK175.out 1
           have hfz34_2 := blk_frozen BK175.out 2
           have hfz34_3 := blk_frozen BK175.out 3
           have p177 : 0 ≤ (x40_2 : Int) := oa
           have q177 : x40_2 < (l1_2.length : Int) := oa
           obtain ⟨ad177, e177, hx177_0⟩ := Kd.at_int HR1_2.out x40_2 p177 q177
           cases e177
           replace hx177_0 := xb HB hx177_0
           replace p177 := eq_true p177
           replace q177 := eq_true q177
           go_wp2
           repeat (go_quiet (fail); try go_wp2)
           go_ret
           exact ⟨re, bl HB⟩
         ·rw [if_neg c27] at H
          exact absurd H (by simp)
        ·rw [if_neg c26] at H
         exact absurd H (by simp)
       ·rw [if_neg c25] at H
        exact absurd H (by simp)
      ·rw [if_neg c24] at H
       have c24b0 : decide (x40_2 < (l0_2.length : Int)) = false := decide_eq_false c24
       clear c24
       have H' := Aside0.mk H
       clear H
       have hnb35 := NB174_175.out
       have hnc35 := NB175_174.out
       have hcz36_0 := blk_cell BK174.out 0
       have hcz36_1 := blk_cell BK174.out 1
       have hcz36_2 := blk_cell BK174.out 2
       have hcz36_3 := blk_cell BK174.out 3
       have hfz36_0 := blk_frozen BK174.out 0
       have hfz36_1 := blk_frozen BK174.out 1
       have hfz36_2 := blk_frozen BK174.out 2
       have hfz36_3 := blk_frozen BK174.out 3
       go_wp2
       repeat (go_quiet (fail); try go_wp2)
       go_loopg [58] k2 (fun kq v58 w' => ∃ (x58_3 : Int), v58 = .int .i64 x58_3 ∧ Aside0 (fluxionref29_Equal.l1 kq (l0_3.length : Int) x58_3 a0_0 a0_1 l0_2 l0_3 a1_0 a1_1 l1_2 l1_3 = some r) ∧ Aside0 (kq ≤ k2) ∧ Aside0 (w'.heap[gb174]? = some (.cells #[.int .i64 a0_0, .bool a0_1, (.slice A0_2 l0_2.length c0_2), (.slice A0_3 l0_3.length c0_3)] 61 (0, 0))) ∧ Aside0 (w'.heap[gb175]? = some (.cells #[.int .i64 a1_0, .bool a1_1, (.slice A1_2 l1_2.length c1_2), (.slice A1_3 l1_3.length c1_3)] 61 (0, 0))) ∧ Aside0 (Below w.heap.size w w'))
       case atStart => exact ⟨(0), rs, H', ⟨Nat.le_refl _⟩, ⟨bk BK174⟩, ⟨bk BK175⟩, ⟨bl HB⟩⟩
       case round =>
        clear H'
        (try clear c1); (try clear p1); (try clear q1); (try clear hx1); (try clear c2); (try clear p2); (try clear c3); (try clear c6); (try clear c6b0); (try clear c6b1); (try clear p6); (try clear c7); (try clear c7b0); (try clear c7b1); (try clear c7b2); (try clear c8); (try clear c11); (try clear c11b0); (try clear c11b1); (try clear c11b2); (try clear c12); (try clear c15); (try clear p17); (try clear q17); (try clear hx17); (try clear c18); (try clear c21); (try clear c22); (try clear c24); (try clear c24b0); (try clear c25); (try clear c25b0); (try clear c26); (try clear c26b0); (try clear c27); (try clear c27b0); (try clear c28); (try clear c28b0); (try clear c28b1); (try clear c29); (try clear c32); (try clear c35); (try clear hcz10_0); (try clear hcz10_1); (try clear hcz10_2); (try clear hcz10_3); (try clear hcz13_0); (try clear hcz13_1); (try clear hcz13_2); (try clear hcz13_3); (try clear hcz14_0); (try clear hcz14_1); (try clear hcz14_2); (try clear hcz14_3); (try clear hcz16_0); (try clear hcz16_1); (try clear hcz16_2); (try clear hcz16_3); (try clear hcz17_0); (try clear hcz17_1); (try clear hcz17_2); (try clear hcz17_3); (try clear hcz19_0); (try clear hcz19_1); (try clear hcz19_2); (try clear hcz19_3); (try clear hcz20_0); (try clear hcz20_1); (try clear hcz20_2); (try clear hcz20_3); (try clear hcz23_0); (try clear hcz23_1); (try clear hcz23_2); (try clear hcz23_3); (try clear hcz30_0); (try clear hcz30_1); (try clear hcz30_2); (try clear hcz30_3); (try clear hcz31_0); (try clear hcz31_1); (try clear hcz31_2); (try clear hcz31_3); (try clear hcz33_0); (try clear hcz33_1); (try clear hcz33_2); (try clear hcz33_3); (try clear hcz34_0); (try clear hcz34_1); (try clear hcz34_2); (try clear hcz34_3); (try clear hcz36_0); (try clear hcz36_1); (try clear hcz36_2); (try clear hcz36_3); (try clear hcz9_0); (try clear hcz9_1); (try clear hcz9_2); (try clear hcz9_3); (try clear hfz10_0); (try clear hfz10_1); (try clear hfz10_2); (try clear hfz10_3); (try clear hfz13_0); (try clear hfz13_1); (try clear hfz13_2); (try clear hfz13_3); (try clear hfz14_0); (try clear hfz14_1); (try clear hfz14_2); (try clear hfz14_3); (try clear hfz16_0); (try clear hfz16_1); (try clear hfz16_2); (try clear hfz16_3); (try clear hfz17_0); (try clear hfz17_1); (try clear hfz17_2); (try clear hfz17_3); (try clear hfz19_0); (try clear hfz19_1); (try clear hfz19_2); (try clear hfz19_3); (try clear hfz20_0); (try clear hfz20_1); (try clear hfz20_2); (try clear hfz20_3); (try clear hfz23_0); (try clear hfz23_1); (try clear hfz23_2); (try clear hfz23_3); (try clear hfz30_0); (try clear hfz30_1); (try clear hfz30_2); (try clear hfz30_3); (try clear hfz31_0); (try clear hfz31_1); (try clear hfz31_2); (try clear hfz31_3); (try clear hfz33_0); (try clear hfz33_1); (try clear hfz33_2); (try clear hfz33_3); (try clear hfz34_0); (try clear hfz34_1); (try clear hfz34_2); (try clear hfz34_3); (try clear hfz36_0); (try clear hfz36_1); (try clear hfz36_2); (try clear hfz36_3); (try clear hfz9_0); (try clear hfz9_1); (try clear hfz9_2); (try clear hfz9_3); (try clear hx176_0); (try clear hx177_0); (try clear p176); (try clear p177); (try clear p2); (try clear q176); (try clear q177)
        obtain ⟨x58_3, rfl, HA, HK3, BK174, BK175, HB⟩ := hrel
        cases gk with
        | zero => exact absurd HA.out (by simp [fluxionref29_Equal.l1])
        | succ k3 =>
         have H := HA.out
         clear HA
         simp only [fluxionref29_Equal.l1] at H
         by_cases c37 : x58_3 < (l0_3.length : Int)
         ·rw [if_pos c37] at H
          have c37b0 : decide (x58_3 < (l0_3.length : Int)) = true := decide_eq_true c37
          clear c37
          by_cases c38 : 0 ≤ x58_3
          ·rw [if_pos c38] at H
           have c38b0 : decide (0 ≤ x58_3) = true := decide_eq_true c38
           clear c38
           by_cases c39 : x58_3 < (l0_3.length : Int)
           ·rw [if_pos c39] at H
            have c39b0 : decide (x58_3 < (l0_3.length : Int)) = true := decide_eq_true c39
            clear c39
            by_cases c40 : x58_3 < (l1_3.length : Int)
            ·rw [if_pos c40] at H
             have c40b0 : decide (x58_3 < (l1_3.length : Int)) = true := decide_eq_true c40
             clear c40
             by_cases c41 : (rd l0_3 x58_3) = (rd l1_3 x58_3)
             ·rw [if_pos c41] at H
              have c41b0 : ((rd l0_3 x58_3) == (rd l1_3 x58_3)) = true := beq_iff_eq.mpr c41
              have c41b1 : ((rd l0_3 x58_3) != (rd l1_3 x58_3)) = false := bne_eq_false_iff_eq.mpr c41
              clear c41
              have H' := Aside0.mk H
              clear H
              have hnb42 := NB174_175.out
              have hnc42 := NB175_174.out
              have hcz43_0 := blk_cell BK174.out 0
              have hcz43_1 := blk_cell BK174.out 1
              have hcz43_2 := blk_cell BK174.out 2
              have hcz43_3 := blk_cell BK174.out 3
              have hfz43_0 := blk_frozen BK174.out 0
              have hfz43_1 := blk_frozen BK174.out 1
              have hfz43_2 := blk_frozen BK174.out 2
              have hfz43_3 := blk_frozen BK174.out 3
              have p178 : 0 ≤ (x58_3 : Int) := oa
              have q178 : x58_3 < (l0_3.length : Int) := oa
              obtain ⟨ad178, e178, hx178_0⟩ := Kd.at_int HR0_3.out x58_3 p178 q178
              cases e178
              replace hx178_0 := xb HB hx178_0
              replace p178 := eq_true p178
              replace q178 := eq_true q178
              have hcz44_0 := blk_cell BK175.out 0
              have hcz44_1 := blk_cell BK175.out 1
              have hcz44_2 := blk_cell BK175.out 2
              have hcz44_3 := blk_cell BK175.out 3
              have hfz44_0 := blk_frozen BK175.out 0
              have hfz44_1 := blk_frozen BK175.out 1
              have hfz44_2 := blk_frozen BK175.out 2
              have hfz44_3 := blk_frozen BK175.out 3
              have p179 : 0 ≤ (x58_3 : Int) := oa
              have q179 : x58_3 < (l1_3.length : Int) := oa
              obtain ⟨ad179, e179, hx179_0⟩ := Kd.at_int HR1_3.out x58_3 p179 q179
              cases e179
              replace hx179_0 := xb HB hx179_0
              replace p179 := eq_true p179
              replace q179 := eq_true q179
              go_wp2
              repeat (go_quiet (fail); try go_wp2)
              go_roundg k3
              case measure => have := HJ2.out; have := HK2.out; have := HK3.out; omega
              case rel => exact ⟨(wrap64 (x58_3 + 1)), rs, H', ⟨by have := HJ2.out; have := HK2.out; have := HK3.out; omega⟩, ⟨bk BK174⟩, ⟨bk BK175⟩, ⟨bl HB⟩⟩
             ·rw [if_neg c41] at H
              have c41b0 : ((rd l0_3 x58_3) == (rd l1_3 x58_3)) = false := beq_eq_false_iff_ne.mpr c41
              have c41b1 : ((rd l0_3 x58_3) != (rd l1_3 x58_3)) = true := bne_iff_ne.mpr c41
              obtain rfl := Option.some.inj H
              have hnb45 := NB174_175.out
              have hnc45 := NB175_174.out
              have hcz46_0 := blk_cell BK174.out 0
              have hcz46_1 := blk_cell BK174.out 1
              have hcz46_2 := blk_cell BK174.out 2
              have hcz46_3 := blk_cell BK174.out 3
              have hfz46_0 := blk_frozen BK174.out 0
              have hfz46_1 := blk_frozen BK174.out 1
              have hfz46_2 := blk_frozen BK174.out 2
              have hfz46_3 := blk_frozen BK174.out 3
              have p178 : 0 ≤ (x58_3 : Int) := oa
              have q178 : x58_3 < (l0_3.length : Int) := oa
              obtain ⟨ad178, e178, hx178_0⟩ := Kd.at_int HR0_3.out x58_3 p178 q178
              cases e178
              replace hx178_0 := xb HB hx178_0
              replace p178 := eq_true p178
              replace q178 := eq_true q178
              have hcz47_0 := blk_cell BK175.out 0
              have hcz47_1 := blk_cell BK175.out 1
              have hcz47_2 := blk_cell BK175.out 2
              have hcz47_3 := blk_cell BK175.out 3
              have hfz47_0 := blk_frozen BK175.out 0
              have hfz47_1 := blk_frozen BK175.out 1
              have hfz47_2 := blk_frozen BK175.out 2
              have hfz47_3 := blk_frozen BK175.out 3
              have p179 : 0 ≤ (x58_3 : Int) := oa
              have q179 : x58_3 < (l1_3.length : Int) := oa
              obtain ⟨ad179, e179, hx179_0⟩ := Kd.at_int HR1_3.out x58_3 p179 q179
              cases e179
              replace hx179_0 := xb HB hx179_0
              replace p179 := eq_true p179
              replace q179 := eq_true q179
              go_wp2
              repeat (go_quiet (fail); try go_wp2)
              go_ret
              exact ⟨re, bl HB⟩
            ·rw [if_neg c40] at H
             exact absurd H (by simp)
           ·rw [if_neg c39] at H
            exact absurd H (by simp)
          ·rw [if_neg c38] at H
           exact absurd H (by simp)
         ·rw [if_neg c37] at H
          have c37b0 : decide (x58_3 < (l0_3.length : Int)) = false := decide_eq_false c37
          clear c37
          obtain rfl := Option.some.inj H
          go_wp2
          repeat (go_quiet (fail); try go_wp2)
          go_ret
          exact ⟨re, bl HB⟩
end Go.Proofs.YtbkknoipgmlcmaaGreatDoor.P

