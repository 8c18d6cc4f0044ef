import Derived.Test.YtbkknoipgmlcmaaGreatDoorQSXZ
import Derived.Test.YtbkknoipgmlcmaaGreatDoorQSP0
import Derived.Test.YtbkknoipgmlcmaaGreatDoorQSP3
namespace Go.Proofs.YtbkknoipgmlcmaaGreatDoor.P
open Go.RowKit Go.Proofs.YtbkknoipgmlcmaaGreatDoorW.PrintWords Go.Proofs.YtbkknoipgmlcmaaGreatDoorW.PrintLast Go.Proofs.YtbkknoipgmlcmaaGreatDoorW.PrintMore
open Go.Proofs.FX
attribute [local go_sem] cell_twice le_add_cast
attribute [local go_sem] max2_int min2_int max_two min_two max_three min_three max_four min_four
set_option linter.unusedVariables false
set_option linter.unusedSimpArgs false
def fluxionlaw29_cut.f (k : Nat) (l0 : List (S50)) : Option ((List (S50))) := (fluxionref29_Cut.f k l0 400).bind fun t164 => (some t164)
set_option maxHeartbeats 8000000 in
set_option maxRecDepth 100000 in
theorem fluxionlaw29_cut.calls (k : Nat) (A0 : Option Addr) (c0 : Nat) (l0 : List (S50)) (r : List (S50)) (w : World) (hr0 : Kd.C k50 w A0 l0.length l0) (hc0 : l0.length ≤ c0) (h : fluxionlaw29_cut.f k l0 = some r) :
  Calls Tryz.prog 11 #[.slice A0 l0.length c0] w fun e w' => ∃ v0_ : Value, e = .returned (v0_) ∧ Kd.R k50 50 w' w.heap.size (fun _ => True) v0_ r ∧ Below w.heap.size w w' := by
 have HR0 := Aside0.mk hr0
 have HC0 := Aside0.mk hc0
 clear hr0 hc0
 have HB := Aside0.mk (Below.refl w.heap.size w)
 have H : ((fluxionref29_Cut.f k l0 400).bind fun t164 => (some t164)) = some r := h
 clear h
 replace H := Option.bind_eq_some_iff.mp H
 obtain ⟨t164, A20, H⟩ := H
 (try dsimp only at H)
 have A2 := Aside0.mk A20
 clear A20
 obtain rfl := Option.some.inj H
 go_enter Tryz.func11, Tryz.ntmps11
 go_wp2_with (first | ((with_reducible refine gate_callee (f := 30) rfl ?_); refine gl 4 Tryz.func30 #[.slice A0 l0.length c0, .int .i64 400] ?_; (with_reducible refine (fluxionref29_Cut.calls k _ _ l0 400 t164 _ ?side1 ?side2 A2.out).mono ?_); (case side1 => repeat (first | exact HR0.out | (with_reducible refine Kd.C_alloc ?_ _) | (with_reducible refine Kd.C_drewN ?_ _) | (with_reducible refine Kd.C_drew ?_))); (case side2 => exact HC0.out); rintro e w3 ⟨v165, rfl, ho0, hb⟩; refine ⟨_, rfl, ?_⟩; have HO166 := Aside0.mk (Kd.R_lower ho0 (below_size (bl HB))); replace HB := Aside0.mk (below_step (bl HB) hb); clear hb ho0))
 go_ret
 exact ⟨_, re, by (with_reducible repeat (first | apply Kd.R_alloc | apply Kd.R_drewN | apply Kd.R_drew)); exact HO166.out, bl HB⟩
mutual
def fluxionref03_Same.j0 : Nat → Bool → Int → List Int → Int → List Int → Option (Bool)
 | 0, _, _, _, _, _ => none
 | k + 1, x19, x168000, x168001, x169000, x169001 => if x19 = true then (some false) else (fluxionref03_Same.l0 k 0 x168000 x168001 x169000 x169001)
def fluxionref03_Same.l0 : Nat → Int → Int → List Int → Int → List Int → Option (Bool)
 | 0, _, _, _, _, _ => none
 | k + 1, x5, x168000, x168001, x169000, x169001 => if x5 < (x168001.length : Int) then (if 0 ≤ x5 then (if x5 < (x169001.length : Int) then (if (rd x168001 x5) = (rd x169001 x5) then (fluxionref03_Same.l0 k (wrap64 (x5 + 1)) x168000 x168001 x169000 x169001) else (some false)) else (none)) else (none)) else (some true)
end
def fluxionref03_Same.f (k : Nat) (a0_0 : Int) (l0_1 : List Int) (a1_0 : Int) (l1_1 : List Int) : Option (Bool) := if a0_0 = a1_0 then (fluxionref03_Same.j0 k ((l0_1.length : Int) != (l1_1.length : Int)) a0_0 l0_1 a1_0 l1_1) else (fluxionref03_Same.j0 k true a0_0 l0_1 a1_0 l1_1)
theorem fluxionref03_Same.mono_l : ∀ k, (∀ y0 y1 y2 y3 y4, LeO (fluxionref03_Same.j0 k y0 y1 y2 y3 y4) (fluxionref03_Same.j0 (k + 1) y0 y1 y2 y3 y4)) ∧ (∀ y0 y1 y2 y3 y4, LeO (fluxionref03_Same.l0 k y0 y1 y2 y3 y4) (fluxionref03_Same.l0 (k + 1) y0 y1 y2 y3 y4))
 | 0 => ⟨fun _ _ _ _ _ r h => by simp [fluxionref03_Same.j0] at h, fun _ _ _ _ _ r h => by simp [fluxionref03_Same.l0] at h⟩
 | k + 1 => by
  obtain ⟨ih0, ih1⟩ := fluxionref03_Same.mono_l k
  refine ⟨?_, ?_⟩
  ·intro y0 y1 y2 y3 y4
   unfold fluxionref03_Same.j0
   repeat' first
   | (with_reducible exact ih0 _ _ _ _ _)
   | (with_reducible exact ih1 _ _ _ _ _)
   | (with_reducible exact LeO.refl _)
   | (with_reducible exact LeO.none _)
   | (with_reducible refine LeO.ite ?_ ?_)
   | (with_reducible refine LeO.bind ?_ (fun _ => ?_))
   | exact ih0 _ _ _ _ _
   | exact ih1 _ _ _ _ _
   | exact LeO.none _
   | refine LeO.ite ?_ ?_
   | refine LeO.bind ?_ (fun _ => ?_)
  ·intro y0 y1 y2 y3 y4
   unfold fluxionref03_Same.l0
   repeat' first
   | (with_reducible exact ih0 _ _ _ _ _)
   | (with_reducible exact ih1 _ _ _ _ _)
   | (with_reducible exact LeO.refl _)
   | (with_reducible exact LeO.none _)
   | (with_reducible refine LeO.ite ?_ ?_)
   | (with_reducible refine LeO.bind ?_ (fun _ => ?_))
   | exact ih0 _ _ _ _ _
   | exact ih1 _ _ _ _ _
   | exact LeO.none _
   | refine LeO.ite ?_ ?_
   | refine LeO.bind ?_ (fun _ => ?_)
theorem fluxionref03_Same.mono : ∀ a0 a1 a2 a3 k, LeO (fluxionref03_Same.f k a0 a1 a2 a3) (fluxionref03_Same.f (k + 1) a0 a1 a2 a3) := by
 intro a0 a1 a2 a3 k
 obtain ⟨ih0, ih1⟩ := fluxionref03_Same.mono_l k
 unfold fluxionref03_Same.f
 repeat' first
   | (with_reducible exact ih0 _ _ _ _ _)
   | (with_reducible exact ih1 _ _ _ _ _)
   | (with_reducible exact LeO.refl _)
   | (with_reducible exact LeO.none _)
   | (with_reducible refine LeO.ite ?_ ?_)
   | (with_reducible refine LeO.bind ?_ (fun _ => ?_))
   | exact ih0 _ _ _ _ _
   | exact ih1 _ _ _ _ _
   | exact LeO.none _
   | refine LeO.ite ?_ ?_
   | refine LeO.bind ?_ (fun _ => ?_)
set_option maxHeartbeats 8000000 in
set_option maxRecDepth 100000 in
theorem fluxionref03_Same.calls (k : Nat) (a0_0 : Int) (A0_1 : Option Addr) (c0_1 : Nat) (l0_1 : List Int) (a1_0 : Int) (A1_1 : Option Addr) (c1_1 : Nat) (l1_1 : List Int) (r : Bool) (w : World) (hr0_1 : Kd.C (Kd.int .i64) w A0_1 l0_1.length l0_1) (hc0_1 : l0_1.length ≤ c0_1) (hr1_1 : Kd.C (Kd.int .i64) w A1_1 l1_1.length l1_1) (hc1_1 : l1_1.length ≤ c1_1) (h : fluxionref03_Same.f k a0_0 l0_1 a1_0 l1_1 = some r) :
  Calls Tryz.prog 101 #[.agg #[.int .i64 a0_0, .slice A0_1 l0_1.length c0_1], .agg #[.int .i64 a1_0, .slice A1_1 l1_1.length c1_1]] w fun e w' => e = .returned (.bool r) ∧ Below w.heap.size w w' := by
 have hu115 := Tryz.underlying115
 have HR0_1 := Aside0.mk hr0_1
 have HC0_1 := Aside0.mk hc0_1
 clear hr0_1 hc0_1
 have HR1_1 := Aside0.mk hr1_1
 have HC1_1 := Aside0.mk hc1_1
 clear hr1_1 hc1_1
 have HB := Aside0.mk (Below.refl w.heap.size w)
 have H : (if a0_0 = a1_0 then (fluxionref03_Same.j0 k ((l0_1.length : Int) != (l1_1.length : Int)) a0_0 l0_1 a1_0 l1_1) else (fluxionref03_Same.j0 k true a0_0 l0_1 a1_0 l1_1)) = some r := h
 clear h
 have HC3 := Aside0.mk H
 clear H
 go_enter Tryz.func101, Tryz.ntmps101
 go_upto_region 1 with (first | ((with_reducible refine gate_dst (N := 2) rfl ?_); (try (refine gate_guard (by rfl) ?_; dsimp only)); refine bx (N := 2) (cs := #[.int .i64 a0_0, .slice A0_1 l0_1.length c0_1]) (t := 115) ?_; intro gb167 hg w4 hbox hb; have BK167 := Aside0.mk (hbox); have GW167 := (gz hg HB : Aside0 (w.heap.size ≤ gb167)); have GE167 := (gz hg HB : Aside0 (w.heap.size ≤ gb167)); replace HB := Aside0.mk (below_step (bl HB) hb); clear hb hbox hg) | ((with_reducible refine gate_dst (N := 3) rfl ?_); (try (refine gate_guard (by rfl) ?_; dsimp only)); refine bx (N := 3) (cs := #[.int .i64 a1_0, .slice A1_1 l1_1.length c1_1]) (t := 115) ?_; intro gb168 hg w5 hbox hb; have n0_ := Aside0.mk (blk_below (g := gb167) (o := .cells #[.int .i64 a0_0, .slice A0_1 l0_1.length c0_1] 115 (0, 0)) (bk BK167) hb); have n1_ := Aside0.mk (below_step (bl HB) hb); have n2_ := Aside0.mk (hbox); have n3_ := (gz hg HB : Aside0 (w.heap.size ≤ gb168)); have n4_ := (gz hg HB : Aside0 (w.heap.size ≤ gb168)); have n5_ := Aside0.mk ((by rw [hg]; exact Nat.ne_of_lt (blk_lt (g := gb167) (o := .cells #[.int .i64 a0_0, .slice A0_1 l0_1.length c0_1] 115 (0, 0)) (bk BK167)) : gb167 ≠ gb168)); have n6_ := Aside0.mk ((by rw [hg]; exact Nat.ne_of_gt (blk_lt (g := gb167) (o := .cells #[.int .i64 a0_0, .slice A0_1 l0_1.length c0_1] 115 (0, 0)) (bk BK167)) : gb168 ≠ gb167)); clear BK167; clear HB; have BK167 := n0_; have HB := n1_; have BK168 := n2_; have GW168 := n3_; have GE168 := n4_; have NB167_168 := n5_; have NB168_167 := n6_; clear n0_ n1_ n2_ n3_ n4_ n5_ n6_; clear hb hbox hg))
 repeat (go_quiet (first | ((with_reducible refine gate_dst (N := 2) rfl ?_); (try (refine gate_guard (by rfl) ?_; dsimp only)); refine bx (N := 2) (cs := #[.int .i64 a0_0, .slice A0_1 l0_1.length c0_1]) (t := 115) ?_; intro gb167 hg w4 hbox hb; have n0_ := Aside0.mk (below_step (bl HB) hb); have n1_ := Aside0.mk (hbox); have n2_ := (gz hg HB : Aside0 (w.heap.size ≤ gb167)); have n3_ := (gz hg HB : Aside0 (w.heap.size ≤ gb167)); clear HB; have HB := n0_; have BK167 := n1_; have GW167 := n2_; have GE167 := n3_; clear n0_ n1_ n2_ n3_; clear hb hbox hg) | ((with_reducible refine gate_dst (N := 3) rfl ?_); (try (refine gate_guard (by rfl) ?_; dsimp only)); refine bx (N := 3) (cs := #[.int .i64 a1_0, .slice A1_1 l1_1.length c1_1]) (t := 115) ?_; intro gb168 hg w5 hbox hb; have n0_ := Aside0.mk (blk_below (g := gb167) (o := .cells #[.int .i64 a0_0, .slice A0_1 l0_1.length c0_1] 115 (0, 0)) (bk BK167) hb); have n1_ := Aside0.mk (below_step (bl HB) hb); have n2_ := Aside0.mk (hbox); have n3_ := (gz hg HB : Aside0 (w.heap.size ≤ gb168)); have n4_ := (gz hg HB : Aside0 (w.heap.size ≤ gb168)); have n5_ := Aside0.mk ((by rw [hg]; exact Nat.ne_of_lt (blk_lt (g := gb167) (o := .cells #[.int .i64 a0_0, .slice A0_1 l0_1.length c0_1] 115 (0, 0)) (bk BK167)) : gb167 ≠ gb168)); have n6_ := Aside0.mk ((by rw [hg]; exact Nat.ne_of_gt (blk_lt (g := gb167) (o := .cells #[.int .i64 a0_0, .slice A0_1 l0_1.length c0_1] 115 (0, 0)) (bk BK167)) : gb168 ≠ gb167)); clear BK167; clear HB; have BK167 := n0_; have HB := n1_; have BK168 := n2_; have GW168 := n3_; have GE168 := n4_; have NB167_168 := n5_; have NB168_167 := n6_; clear n0_ n1_ n2_ n3_ n4_ n5_ n6_; clear hb hbox hg)); go_upto_region 1 with (first | ((with_reducible refine gate_dst (N := 2) rfl ?_); (try (refine gate_guard (by rfl) ?_; dsimp only)); refine bx (N := 2) (cs := #[.int .i64 a0_0, .slice A0_1 l0_1.length c0_1]) (t := 115) ?_; intro gb167 hg w4 hbox hb; have n0_ := Aside0.mk (below_step (bl HB) hb); have n1_ := Aside0.mk (hbox); have n2_ := (gz hg HB : Aside0 (w.heap.size ≤ gb167)); have n3_ := (gz hg HB : Aside0 (w.heap.size ≤ gb167)); clear HB; have HB := n0_; have BK167 := n1_; have GW167 := n2_; have GE167 := n3_; clear n0_ n1_ n2_ n3_; clear hb hbox hg) | ((with_reducible refine gate_dst (N := 3) rfl ?_); (try (refine gate_guard (by rfl) ?_; dsimp only)); refine bx (N := 3) (cs := #[.int .i64 a1_0, .slice A1_1 l1_1.length c1_1]) (t := 115) ?_; intro gb168 hg w5 hbox hb; have n0_ := Aside0.mk (blk_below (g := gb167) (o := .cells #[.int .i64 a0_0, .slice A0_1 l0_1.length c0_1] 115 (0, 0)) (bk BK167) hb); have n1_ := Aside0.mk (below_step (bl HB) hb); have n2_ := Aside0.mk (hbox); have n3_ := (gz hg HB : Aside0 (w.heap.size ≤ gb168)); have n4_ := (gz hg HB : Aside0 (w.heap.size ≤ gb168)); have n5_ := Aside0.mk ((by rw [hg]; exact Nat.ne_of_lt (blk_lt (g := gb167) (o := .cells #[.int .i64 a0_0, .slice A0_1 l0_1.length c0_1] 115 (0, 0)) (bk BK167)) : gb167 ≠ gb168)); have n6_ := Aside0.mk ((by rw [hg]; exact Nat.ne_of_gt (blk_lt (g := gb167) (o := .cells #[.int .i64 a0_0, .slice A0_1 l0_1.length c0_1] 115 (0, 0)) (bk BK167)) : gb168 ≠ gb167)); clear BK167; clear HB; have BK167 := n0_; have HB := n1_; have BK168 := n2_; have GW168 := n3_; have GE168 := n4_; have NB167_168 := n5_; have NB168_167 := n6_; clear n0_ n1_ n2_ n3_ n4_ n5_ n6_; clear hb hbox hg)))
 (try simp only [Act.put, List.setIfInBounds_toArray, List.set_cons_zero, List.set_cons_succ])
 go_cut [19] (fun v19 wc => ∃ (kq : Nat) (x19_2 : Bool), v19 = .bool x19_2 ∧ Aside0 (fluxionref03_Same.j0 kq x19_2 a0_0 l0_1 a1_0 l1_1 = some r) ∧ Aside0 (kq ≤ k) ∧ Aside0 (wc.heap[gb167]? = some (.cells #[.int .i64 a0_0, (.slice A0_1 l0_1.length c0_1)] 115 (0, 0))) ∧ Aside0 (wc.heap[gb168]? = some (.cells #[.int .i64 a1_0, (.slice A1_1 l1_1.length c1_1)] 115 (0, 0))) ∧ Aside0 (Below w.heap.size w wc))
 case first =>
  have H := HC3.out
  clear HC3
  by_cases c6 : a0_0 = a1_0
  ·rw [if_pos c6] at H
   have c6b0 : (a0_0 == a1_0) = true := beq_iff_eq.mpr c6
   have c6b1 : (a0_0 != a1_0) = false := bne_eq_false_iff_eq.mpr c6
   clear c6
   (first | rw [c6b0] | (simp only [i64_w, i32_w]; rw [c6b0]) | skip)
   have H' := Aside0.mk H
   clear H
   have hnb7 := NB167_168.out
   have hnc7 := NB168_167.out
   have hcz8_0 := blk_cell BK167.out 0
   have hcz8_1 := blk_cell BK167.out 1
   have hfz8_0 := blk_frozen BK167.out 0
   have hfz8_1 := blk_frozen BK167.out 1
   have hcz9_0 := blk_cell BK168.out 0
   have hcz9_1 := blk_cell BK168.out 1
   have hfz9_0 := blk_frozen BK168.out 0
   have hfz9_1 := blk_frozen BK168.out 1
   go_wp2
   repeat (go_quiet (fail); try go_wp2)
   go_meet
   case rel => exact ⟨_, (((l0_1.length : Int) != (l1_1.length : Int))), rs, H', ⟨by first | omega | exact Nat.le_refl _⟩, ⟨bk BK167⟩, ⟨bk BK168⟩, ⟨bl HB⟩⟩
  ·rw [if_neg c6] at H
   have c6b0 : (a0_0 == a1_0) = false := beq_eq_false_iff_ne.mpr c6
   have c6b1 : (a0_0 != a1_0) = true := bne_iff_ne.mpr c6
   (first | rw [c6b0] | (simp only [i64_w, i32_w]; rw [c6b0]) | skip)
   have H' := Aside0.mk H
   clear H
   have hnb10 := NB167_168.out
   have hnc10 := NB168_167.out
   have hcz11_0 := blk_cell BK167.out 0
   have hcz11_1 := blk_cell BK167.out 1
   have hfz11_0 := blk_frozen BK167.out 0
   have hfz11_1 := blk_frozen BK167.out 1
   have hcz12_0 := blk_cell BK168.out 0
   have hcz12_1 := blk_cell BK168.out 1
   have hfz12_0 := blk_frozen BK168.out 0
   have hfz12_1 := blk_frozen BK168.out 1
   go_wp2
   repeat (go_quiet (fail); try go_wp2)
   go_meet
   case rel => exact ⟨_, (true), rs, H', ⟨by first | omega | exact Nat.le_refl _⟩, ⟨bk BK167⟩, ⟨bk BK168⟩, ⟨bl HB⟩⟩
 case rest =>
  clear HC3
  (try clear c1); (try clear p2); (try clear c6); (try clear c6b0); (try clear c6b1); (try clear c7); (try clear c10); (try clear hcz11_0); (try clear hcz11_1); (try clear hcz12_0); (try clear hcz12_1); (try clear hcz8_0); (try clear hcz8_1); (try clear hcz9_0); (try clear hcz9_1); (try clear hfz11_0); (try clear hfz11_1); (try clear hfz12_0); (try clear hfz12_1); (try clear hfz8_0); (try clear hfz8_1); (try clear hfz9_0); (try clear hfz9_1)
  obtain ⟨kq, x19_2, rfl, HA, HJ2, BK167, BK168, HB⟩ := hcut
  cases kq with
  | zero => exact absurd HA.out (by simp [fluxionref03_Same.j0])
  | succ kj2 =>
   have H := HA.out
   clear HA
   simp only [fluxionref03_Same.j0] at H
   by_cases c13 : x19_2 = true
   ·subst c13
    have H1 : (some false) = some r := by rw [if_pos rfl] at H; exact H
    clear H
    have H := H1
    clear H1
    obtain rfl := Option.some.inj H
    go_wp2
    repeat (go_quiet (fail); try go_wp2)
    go_ret
    exact ⟨re, bl HB⟩
   ·replace c13 := Bool.eq_false_iff.mpr c13
    subst c13
    have H1 : (fluxionref03_Same.l0 kj2 0 a0_0 l0_1 a1_0 l1_1) = some r := by rw [if_neg (show ¬ (false = true) by decide)] at H; exact H
    clear H
    have H := H1
    clear H1
    have H' := Aside0.mk H
    clear H
    go_wp2
    repeat (go_quiet (fail); try go_wp2)
    go_loopg [5] kj2 (fun kq v5 w' => ∃ (x5_2 : Int), v5 = .int .i64 x5_2 ∧ Aside0 (fluxionref03_Same.l0 kq x5_2 a0_0 l0_1 a1_0 l1_1 = some r) ∧ Aside0 (kq ≤ kj2) ∧ Aside0 (w'.heap[gb167]? = some (.cells #[.int .i64 a0_0, (.slice A0_1 l0_1.length c0_1)] 115 (0, 0))) ∧ Aside0 (w'.heap[gb168]? = some (.cells #[.int .i64 a1_0, (.slice A1_1 l1_1.length c1_1)] 115 (0, 0))) ∧ Aside0 (Below w.heap.size w w'))
    case atStart => exact ⟨(0), rs, H', ⟨Nat.le_refl _⟩, ⟨bk BK167⟩, ⟨bk BK168⟩, ⟨bl HB⟩⟩
    case round =>
     clear H'
     (try clear c1); (try clear p2); (try clear c6); (try clear c6b0); (try clear c6b1); (try clear c7); (try clear c10); (try clear c13); (try clear hcz11_0); (try clear hcz11_1); (try clear hcz12_0); (try clear hcz12_1); (try clear hcz8_0); (try clear hcz8_1); (try clear hcz9_0); (try clear hcz9_1); (try clear hfz11_0); (try clear hfz11_1); (try clear hfz12_0); (try clear hfz12_1); (try clear hfz8_0); (try clear hfz8_1); (try clear hfz9_0); (try clear hfz9_1); (try clear p2)
     obtain ⟨x5_2, rfl, HA, HK2, BK167, BK168, HB⟩ := hrel
     cases gk with
     | zero => exact absurd HA.out (by simp [fluxionref03_Same.l0])
     | succ k2 =>
      have H := HA.out
      clear HA
      simp only [fluxionref03_Same.l0] at H
      by_cases c14 : x5_2 < (l0_1.length : Int)
      ·rw [if_pos c14] at H
       have c14b0 : decide (x5_2 < (l0_1.length : Int)) = true := decide_eq_true c14
       clear c14
       by_cases c15 : 0 ≤ x5_2
       ·rw [if_pos c15] at H
        have c15b0 : decide (0 ≤ x5_2) = true := decide_eq_true c15
        clear c15
        by_cases c16 : x5_2 < (l1_1.length : Int)
        ·rw [if_pos c16] at H
         have c16b0 : decide (x5_2 < (l1_1.length : Int)) = true := decide_eq_true c16
         clear c16
         by_cases c17 : (rd l0_1 x5_2) = (rd l1_1 x5_2)
         ·rw [if_pos c17] at H
          have c17b0 : ((rd l0_1 x5_2) == (rd l1_1 x5_2)) = true := beq_iff_eq.mpr c17
          have c17b1 : ((rd l0_1 x5_2) != (rd l1_1 x5_2)) = false := bne_eq_false_iff_eq.mpr c17
          clear c17
          have H' := Aside0.mk H
          clear H
          have hnb18 := NB167_168.out
          have hnc18 := NB168_167.out
          have hcz19_0 := blk_cell BK167.out 0
          have hcz19_1 := blk_cell BK167.out 1
          have hfz19_0 := blk_frozen BK167.out 0
          have hfz19_1 := blk_frozen BK167.out 1
          have p169 : 0 ≤ (x5_2 : Int) := oa
          have q169 : x5_2 < (l0_1.length : Int) := oa
          obtain ⟨ad169, e169, hx169_0⟩ := Kd.at_int HR0_1.out x5_2 p169 q169
          cases e169
          replace hx169_0 := xb HB hx169_0
          replace p169 := eq_true p169
          replace q169 := eq_true q169
          have hcz20_0 := blk_cell BK168.out 0
          have hcz20_1 := blk_cell BK168.out 1
          have hfz20_0 := blk_frozen BK168.out 0
          have hfz20_1 := blk_frozen BK168.out 1
          have p170 : 0 ≤ (x5_2 : Int) := oa
          have q170 : x5_2 < (l1_1.length : Int) := oa
          obtain ⟨ad170, e170, hx170_0⟩ := Kd.at_int HR1_1.out x5_2 p170 q170
          cases e170
          replace hx170_0 := xb HB hx170_0
          replace p170 := eq_true p170
          replace q170 := eq_true q170
          go_wp2
          repeat (go_quiet (fail); try go_wp2)
          go_roundg k2
          case measure => have := HJ2.out; have := HK2.out; omega
          case rel => exact ⟨(wrap64 (x5_2 + 1)), rs, H', ⟨by have := HJ2.out; have := HK2.out; omega⟩, ⟨bk BK167⟩, ⟨bk BK168⟩, ⟨bl HB⟩⟩
         ·rw [if_neg c17] at H
          have c17b0 : ((rd l0_1 x5_2) == (rd l1_1 x5_2)) = false := beq_eq_false_iff_ne.mpr c17
          have c17b1 : ((rd l0_1 x5_2) != (rd l1_1 x5_2)) = true := bne_iff_ne.mpr c17
          obtain rfl := Option.some.inj H
          have hnb21 := NB167_168.out
          have hnc21 := NB168_167.out
          have hcz22_0 := blk_cell BK167.out 0
          have hcz22_1 := blk_cell BK167.out 1
          have hfz22_0 := blk_frozen BK167.out 0
          have hfz22_1 := blk_frozen BK167.out 1
          have p169 : 0 ≤ (x5_2 : Int) := oa
          have q169 : x5_2 < (l0_1.length : Int) := oa
          obtain ⟨ad169, e169, hx169_0⟩ := Kd.at_int HR0_1.out x5_2 p169 q169
          cases e169
          replace hx169_0 := xb HB hx169_0
          replace p169 := eq_true p169
          replace q169 := eq_true q169
          have hcz23_0 := blk_cell BK168.out 0
          have hcz23_1 := blk_cell BK168.out 1
          have hfz23_0 := blk_frozen BK168.out 0
          have hfz23_1 := blk_frozen BK168.out 1
          have p170 : 0 ≤ (x5_2 : Int) := oa
          have q170 : x5_2 < (l1_1.length : Int) := oa
          obtain ⟨ad170, e170, hx170_0⟩ := Kd.at_int HR1_1.out x5_2 p170 q170
          cases e170
          replace hx170_0 := xb HB hx170_0
          replace p170 := eq_true p170
          replace q170 := eq_true q170
          go_wp2
          repeat (go_quiet (fail); try go_wp2)
          go_ret
          exact ⟨re, bl HB⟩
        ·rw [if_neg c16] at H
         exact absurd H (by simp)
       ·rw [if_neg c15] at H
        exact absurd H (by simp)
      ·rw [if_neg c14] at H
       have c14b0 : decide (x5_2 < (l0_1.length : Int)) = false := decide_eq_false c14
       clear c14
       obtain rfl := Option.some.inj H
       have hnb24 := NB167_168.out
       have hnc24 := NB168_167.out
       have hcz25_0 := blk_cell BK167.out 0
       have hcz25_1 := blk_cell BK167.out 1
       have hfz25_0 := blk_frozen BK167.out 0
       have hfz25_1 := blk_frozen BK167.out 1
       go_wp2
       repeat (go_quiet (fail); try go_wp2)
       go_ret
       exact ⟨re, bl HB⟩
def fluxionref29_alike.l0 : Nat → List (S115) → List (S115) → Int → Int → Option (Bool)
 | 0, _, _, _, _ => none
 | k + 1, x0, x1, x12, x13 => if x13 < x12 then (if 0 ≤ x13 then (if x13 < (x0.length : Int) then (if x13 < (x1.length : Int) then ((fluxionref03_Same.f k ((rd_T115 x0 x13).f0) ((rd_T115 x0 x13).f1) ((rd_T115 x1 x13).f0) ((rd_T115 x1 x13).f1)).bind fun t173 => (if t173 = true then (fluxionref29_alike.l0 k x0 x1 x12 (wrap64 (x13 + 1))) else (some false))) else (none)) else (none)) else (none)) else (some true)
def fluxionref29_alike.f (k : Nat) (l0 : List (S115)) (l1 : List (S115)) : Option (Bool) := if (l0.length : Int) = (l1.length : Int) then (fluxionref29_alike.l0 k l0 l1 (l0.length : Int) 0) else (some false)
theorem fluxionref29_alike.mono_l : ∀ k, (∀ y0 y1 y2 y3, LeO (fluxionref29_alike.l0 k y0 y1 y2 y3) (fluxionref29_alike.l0 (k + 1) y0 y1 y2 y3))
 | 0 => fun _ _ _ _ r h => by simp [fluxionref29_alike.l0] at h
 | k + 1 => by
  have ih0 := fluxionref29_alike.mono_l k
  ·intro y0 y1 y2 y3
   unfold fluxionref29_alike.l0
   repeat' first
   | (with_reducible exact ih0 _ _ _ _)
   | (with_reducible exact fluxionref03_Same.mono _ _ _ _ _)
   | (with_reducible exact LeO.refl _)
   | (with_reducible exact LeO.none _)
   | (with_reducible refine LeO.ite ?_ ?_)
   | (with_reducible refine LeO.bind ?_ (fun _ => ?_))
   | exact ih0 _ _ _ _
   | exact fluxionref03_Same.mono _ _ _ _ _
   | exact LeO.none _
   | refine LeO.ite ?_ ?_
   | refine LeO.bind ?_ (fun _ => ?_)
theorem fluxionref29_alike.mono : ∀ a0 a1 k, LeO (fluxionref29_alike.f k a0 a1) (fluxionref29_alike.f (k + 1) a0 a1) := by
 intro a0 a1 k
 have ih0 := fluxionref29_alike.mono_l k
 unfold fluxionref29_alike.f
 repeat' first
   | (with_reducible exact ih0 _ _ _ _)
   | (with_reducible exact fluxionref03_Same.mono _ _ _ _ _)
   | (with_reducible exact LeO.refl _)
   | (with_reducible exact LeO.none _)
   | (with_reducible refine LeO.ite ?_ ?_)
   | (with_reducible refine LeO.bind ?_ (fun _ => ?_))
   | exact ih0 _ _ _ _
   | exact fluxionref03_Same.mono _ _ _ _ _
   | exact LeO.none _
   | refine LeO.ite ?_ ?_
   | refine LeO.bind ?_ (fun _ => ?_)
def fluxionref29_alike.T6 : Bool × List (List Nat × List Nat) := (true, [([], []), ([], []), ([0, 1], [0, 1]), ([2], [2]), ([], []), ([], []), ([4, 5], [4, 5]), ([6], [6]), ([3, 7], [3, 7]), ([8], [8])])
def fluxionref29_alike.B6 : List Nat := [0, 0, 3, 7, 0, 0, 48, 112, 255, 511]
theorem fluxionref29_alike.tab6 : rtab .any (opsOf Tryz.f36 6) = fluxionref29_alike.T6 := by kernel_rfl
theorem fluxionref29_alike.bits6 : waitsOk fluxionref29_alike.T6.2 fluxionref29_alike.B6 = true := by kernel_rfl
set_option maxHeartbeats 8000000 in
set_option maxRecDepth 100000 in
theorem fluxionref29_alike.calls (k : Nat) (A0 : Option Addr) (c0 : Nat) (l0 : List (S115)) (A1 : Option Addr) (c1 : Nat) (l1 : List (S115)) (r : Bool) (w : World) (hr0 : Kd.C k115 w A0 l0.length l0) (hc0 : l0.length ≤ c0) (hr1 : Kd.C k115 w A1 l1.length l1) (hc1 : l1.length ≤ c1) (h : fluxionref29_alike.f k l0 l1 = some r) :
  Calls Tryz.prog 36 #[.slice A0 l0.length c0, .slice A1 l1.length c1] w fun e w' => e = .returned (.bool r) ∧ Below w.heap.size w w' := by
 have hu115 := Tryz.underlying115
 have HR0 := Aside0.mk hr0
 have HC0 := Aside0.mk hc0
 clear hr0 hc0
 have HR1 := Aside0.mk hr1
 have HC1 := Aside0.mk hc1
 clear hr1 hc1
 have HB := Aside0.mk (Below.refl w.heap.size w)
 have H : (if (l0.length : Int) = (l1.length : Int) then (fluxionref29_alike.l0 k l0 l1 (l0.length : Int) 0) else (some false)) = some r := h
 clear h
 by_cases c3 : (l0.length : Int) = (l1.length : Int)
 ·rw [if_pos c3] at H
  have c3b0 : ((l0.length : Int) == (l1.length : Int)) = true := beq_iff_eq.mpr c3
  have c3b1 : ((l0.length : Int) != (l1.length : Int)) = false := bne_eq_false_iff_eq.mpr c3
  have c3b2 : (l0.length == l1.length) = true := by first | simpa using c3 | (simp at c3 ⊢; omega)
  clear c3
  have H' := Aside0.mk H
  clear H
  go_enter Tryz.func36, Tryz.ntmps36
  go_wp2
  go_loopg [13] k (fun kq v13 w' => ∃ (x13_1 : Int), v13 = .int .i64 x13_1 ∧ Aside0 (fluxionref29_alike.l0 kq l0 l1 (l0.length : Int) x13_1 = some r) ∧ Aside0 (kq ≤ k) ∧ Aside0 (Below w.heap.size w w'))
  case atStart => exact ⟨(0), rs, H', ⟨Nat.le_refl _⟩, ⟨bl HB⟩⟩
  case round =>
   clear H'
   (try clear c1); (try clear p2); (try clear c3); (try clear c3b0); (try clear c3b1); (try clear c3b2)
   obtain ⟨x13_1, rfl, HA, HK1, HB⟩ := hrel
   cases gk with
   | zero => exact absurd HA.out (by simp [fluxionref29_alike.l0])
   | succ k1 =>
    have H := HA.out
    clear HA
    simp only [fluxionref29_alike.l0] at H
    by_cases c4 : x13_1 < (l0.length : Int)
    ·rw [if_pos c4] at H
     have c4b0 : decide (x13_1 < (l0.length : Int)) = true := decide_eq_true c4
     clear c4
     by_cases c5 : 0 ≤ x13_1
     ·rw [if_pos c5] at H
      have c5b0 : decide (0 ≤ x13_1) = true := decide_eq_true c5
      clear c5
      by_cases c6 : x13_1 < (l0.length : Int)
      ·rw [if_pos c6] at H
       have c6b0 : decide (x13_1 < (l0.length : Int)) = true := decide_eq_true c6
       clear c6
       by_cases c7 : x13_1 < (l1.length : Int)
       ·rw [if_pos c7] at H
        have c7b0 : decide (x13_1 < (l1.length : Int)) = true := decide_eq_true c7
        clear c7
        replace H := Option.bind_eq_some_iff.mp H
        obtain ⟨t173, A80, H⟩ := H
        (try dsimp only at H)
        have A8 := Aside0.mk A80
        clear A80
        by_cases c9 : t173 = true
        ·subst c9
         have H1 : (fluxionref29_alike.l0 k1 l0 l1 (l0.length : Int) (wrap64 (x13_1 + 1))) = some r := by rw [if_pos rfl] at H; exact H
         clear H
         have H := H1
         clear H1
         have H' := Aside0.mk H
         clear H
         try go_wp2
         have n0_ := Aside0.mk (below_drew1 HB.out)
         clear HB
         have HB := n0_
         clear n0_
         have p171 : 0 ≤ (x13_1 : Int) := oa
         have q171 : x13_1 < (l0.length : Int) := oa
         obtain ⟨ad171, A171_1, c171_1, e171, hx171_0, hx171_1, hl171_1, hi171_1⟩ := at_T115 HR0.out x13_1 p171 q171
         have hw171_1 := hx171_1
         have hw171_0 := hx171_0
         cases e171
         replace hx171_0 := xb HB hx171_0
         replace hx171_1 := xb HB hx171_1
         have HR171_1 := Aside0.mk hi171_1
         have HC171_1 := Aside0.mk hl171_1
         clear hi171_1 hl171_1
         replace p171 := eq_true p171
         replace q171 := eq_true q171
         have p172 : 0 ≤ (x13_1 : Int) := oa
         have q172 : x13_1 < (l1.length : Int) := oa
         obtain ⟨ad172, A172_1, c172_1, e172, hx172_0, hx172_1, hl172_1, hi172_1⟩ := at_T115 HR1.out x13_1 p172 q172
         have hw172_1 := hx172_1
         have hw172_0 := hx172_0
         cases e172
         replace hx172_0 := xb HB hx172_0
         replace hx172_1 := xb HB hx172_1
         have HR172_1 := Aside0.mk hi172_1
         have HC172_1 := Aside0.mk hl172_1
         clear hi172_1 hl172_1
         replace p172 := eq_true p172
         replace q172 := eq_true q172
         refine start_ (n := 10) (S := fun w' => w'.cell? (ad171.add ((x13_1).toNat * 2)) = some (.int .i64 ((rd_T115 l0 x13_1).f0)) ∧ w'.cell? ⟨(ad171.add ((x13_1).toNat * 2)).block, (ad171.add ((x13_1).toNat * 2)).off + 1, none⟩ = some (.slice A171_1 ((rd_T115 l0 x13_1).f1).length c171_1) ∧ w'.cell? (ad172.add ((x13_1).toNat * 2)) = some (.int .i64 ((rd_T115 l1 x13_1).f0)) ∧ w'.cell? ⟨(ad172.add ((x13_1).toNat * 2)).block, (ad172.add ((x13_1).toNat * 2)).off + 1, none⟩ = some (.slice A172_1 ((rd_T115 l1 x13_1).f1).length c172_1)) (ds := []) (mk 10 0) (by kernel_rfl) rfl (by kernel_rfl) ⟨(xb HB hw171_0), (xb HB hw171_1), (xb HB hw172_0), (xb HB hw172_1)⟩ (fun hHeld => ?_); refine with_tabW fluxionref29_alike.tab6 fluxionref29_alike.bits6 (fun HT_ HW_ => ?_)
         generalize wr.drew = w10 at HB HR171_1 HR172_1 hx171_0 hx171_1 hx172_0 hx172_1 hHeld ⊢
         refine pu 0 16 (mk 10 1) (any_of HT_.out (by kernel_rfl)) ?_
         refine pu 1 17 (mk 10 3) (any_of HT_.out (by kernel_rfl)) ?_
         refine pu 2 18 (mk 10 7) (any_of HT_.out (by kernel_rfl)) ?_
         refine pu 4 20 (mk 10 23) (any_of HT_.out (by kernel_rfl)) ?_
         refine pu 5 21 (mk 10 55) (any_of HT_.out (by kernel_rfl)) ?_
         refine pu 6 22 (mk 10 119) (any_of HT_.out (by kernel_rfl)) ?_
         refine tk 3 19 (mk 10 127) (take_ofW HT_.out HW_.out (by kernel_rfl)) hHeld ?_
         refine tk 7 23 (mk 10 255) (take_ofW HT_.out HW_.out (by kernel_rfl)) hHeld ?_
         refine one_ (i := 8) (N := some 24) (mk 10 511) rfl rfl (one_of HT_.out (by kernel_rfl)) (by decide) (fun K hK => ?_)
         refine goes_ Tryz.func101 (by kernel_rfl) rfl #[.agg #[.int .i64 ((rd_T115 l0 x13_1).f0), .slice A171_1 ((rd_T115 l0 x13_1).f1).length c171_1], .agg #[.int .i64 ((rd_T115 l1 x13_1).f0), .slice A172_1 ((rd_T115 l1 x13_1).f1).length c172_1]] (by rfl) rfl rfl (by (try simp only [List.map_toArray, List.map_cons, List.map_nil]); first | done | rfl | (simp only [List.length_drop, List.length_take]; rfl)) ?_
         with_reducible refine (fluxionref03_Same.calls k1 ((rd_T115 l0 x13_1).f0) _ _ ((rd_T115 l0 x13_1).f1) ((rd_T115 l1 x13_1).f0) _ _ ((rd_T115 l1 x13_1).f1) true _ ?side1 ?side2 ?side3 ?side4 A8.out).mono ?_
         (case side1 => exact cb HR171_1 HB)
         (case side2 => exact HC171_1.out)
         (case side3 => exact cb HR172_1 HB)
         (case side4 => exact HC172_1.out)
         rintro e w11 ⟨rfl, hb⟩
         refine ⟨_, rfl, ?_⟩
         have n0_ := Aside0.mk (below_step (bl HB) hb)
         clear HB
         have HB := n0_
         clear n0_
         (try clear hb)
         (try clear hb2)
         (try clear hk)
         (try clear hi)
         refine hK.out _ _ ⟨(xb HB hw171_0), (xb HB hw171_1), (xb HB hw172_0), (xb HB hw172_1)⟩ (fun hHeld => ?_)
         clear hK K
         refine norm_ (a' := ?_) ?_ ?_
         rotate_left
         ·show Act.put _ (some 24) _ = _
          simp only [Act.put, List.setIfInBounds_toArray, List.set_cons_zero, List.set_cons_succ, i64_w, i32_w]
          rfl
         refine pu 9 25 (mk 10 1023) (any_of HT_.out (by kernel_rfl)) ?_
         refine done_ (done_of HT_.out (by kernel_rfl)) ?_
         try go_wp2
         go_roundg k1
         case measure => have := HK1.out; omega
         case rel => exact ⟨(wrap64 (x13_1 + 1)), rs, H', ⟨by have := HK1.out; omega⟩, ⟨bl HB⟩⟩
        ·replace c9 := Bool.eq_false_iff.mpr c9
         subst c9
         have H1 : (some false) = some r := by rw [if_neg (show ¬ (false = true) by decide)] at H; exact H
         clear H
         have H := H1
         clear H1
         obtain rfl := Option.some.inj H
         try go_wp2
         have n0_ := Aside0.mk (below_drew1 HB.out)
         clear HB
         have HB := n0_
         clear n0_
         have p171 : 0 ≤ (x13_1 : Int) := oa
         have q171 : x13_1 < (l0.length : Int) := oa
         obtain ⟨ad171, A171_1, c171_1, e171, hx171_0, hx171_1, hl171_1, hi171_1⟩ := at_T115 HR0.out x13_1 p171 q171
         have hw171_1 := hx171_1
         have hw171_0 := hx171_0
         cases e171
         replace hx171_0 := xb HB hx171_0
         replace hx171_1 := xb HB hx171_1
         have HR171_1 := Aside0.mk hi171_1
         have HC171_1 := Aside0.mk hl171_1
         clear hi171_1 hl171_1
         replace p171 := eq_true p171
         replace q171 := eq_true q171
         have p172 : 0 ≤ (x13_1 : Int) := oa
         have q172 : x13_1 < (l1.length : Int) := oa
         obtain ⟨ad172, A172_1, c172_1, e172, hx172_0, hx172_1, hl172_1, hi172_1⟩ := at_T115 HR1.out x13_1 p172 q172
         have hw172_1 := hx172_1
         have hw172_0 := hx172_0
         cases e172
         replace hx172_0 := xb HB hx172_0
         replace hx172_1 := xb HB hx172_1
         have HR172_1 := Aside0.mk hi172_1
         have HC172_1 := Aside0.mk hl172_1
         clear hi172_1 hl172_1
         replace p172 := eq_true p172
         replace q172 := eq_true q172
         refine start_ (n := 10) (S := fun w' => w'.cell? (ad171.add ((x13_1).toNat * 2)) = some (.int .i64 ((rd_T115 l0 x13_1).f0)) ∧ w'.cell? ⟨(ad171.add ((x13_1).toNat * 2)).block, (ad171.add ((x13_1).toNat * 2)).off + 1, none⟩ = some (.slice A171_1 ((rd_T115 l0 x13_1).f1).length c171_1) ∧ w'.cell? (ad172.add ((x13_1).toNat * 2)) = some (.int .i64 ((rd_T115 l1 x13_1).f0)) ∧ w'.cell? ⟨(ad172.add ((x13_1).toNat * 2)).block, (ad172.add ((x13_1).toNat * 2)).off + 1, none⟩ = some (.slice A172_1 ((rd_T115 l1 x13_1).f1).length c172_1)) (ds := []) (mk 10 0) (by kernel_rfl) rfl (by kernel_rfl) ⟨(xb HB hw171_0), (xb HB hw171_1), (xb HB hw172_0), (xb HB hw172_1)⟩ (fun hHeld => ?_); refine with_tabW fluxionref29_alike.tab6 fluxionref29_alike.bits6 (fun HT_ HW_ => ?_)
         generalize wr.drew = w12 at HB HR171_1 HR172_1 hx171_0 hx171_1 hx172_0 hx172_1 hHeld ⊢
         refine pu 0 16 (mk 10 1) (any_of HT_.out (by kernel_rfl)) ?_
         refine pu 1 17 (mk 10 3) (any_of HT_.out (by kernel_rfl)) ?_
         refine pu 2 18 (mk 10 7) (any_of HT_.out (by kernel_rfl)) ?_
         refine pu 4 20 (mk 10 23) (any_of HT_.out (by kernel_rfl)) ?_
         refine pu 5 21 (mk 10 55) (any_of HT_.out (by kernel_rfl)) ?_
         refine pu 6 22 (mk 10 119) (any_of HT_.out (by kernel_rfl)) ?_
         refine tk 3 19 (mk 10 127) (take_ofW HT_.out HW_.out (by kernel_rfl)) hHeld ?_
         refine tk 7 23 (mk 10 255) (take_ofW HT_.out HW_.out (by kernel_rfl)) hHeld ?_
         refine one_ (i := 8) (N := some 24) (mk 10 511) rfl rfl (one_of HT_.out (by kernel_rfl)) (by decide) (fun K hK => ?_)
         refine goes_ Tryz.func101 (by kernel_rfl) rfl #[.agg #[.int .i64 ((rd_T115 l0 x13_1).f0), .slice A171_1 ((rd_T115 l0 x13_1).f1).length c171_1], .agg #[.int .i64 ((rd_T115 l1 x13_1).f0), .slice A172_1 ((rd_T115 l1 x13_1).f1).length c172_1]] (by rfl) rfl rfl (by (try simp only [List.map_toArray, List.map_cons, List.map_nil]); first | done | rfl | (simp only [List.length_drop, List.length_take]; rfl)) ?_
         with_reducible refine (fluxionref03_Same.calls k1 ((rd_T115 l0 x13_1).f0) _ _ ((rd_T115 l0 x13_1).f1) ((rd_T115 l1 x13_1).f0) _ _ ((rd_T115 l1 x13_1).f1) false _ ?side1 ?side2 ?side3 ?side4 A8.out).mono ?_
         (case side1 => exact cb HR171_1 HB)
         (case side2 => exact HC171_1.out)
         (case side3 => exact cb HR172_1 HB)
         (case side4 => exact HC172_1.out)
         rintro e w13 ⟨rfl, hb⟩
         refine ⟨_, rfl, ?_⟩
         have n0_ := Aside0.mk (below_step (bl HB) hb)
         clear HB
         have HB := n0_
         clear n0_
         (try clear hb)
         (try clear hb2)
         (try clear hk)
         (try clear hi)
         refine hK.out _ _ ⟨(xb HB hw171_0), (xb HB hw171_1), (xb HB hw172_0), (xb HB hw172_1)⟩ (fun hHeld => ?_)
         clear hK K
         refine norm_ (a' := ?_) ?_ ?_
         rotate_left
         ·show Act.put _ (some 24) _ = _
          simp only [Act.put, List.setIfInBounds_toArray, List.set_cons_zero, List.set_cons_succ, i64_w, i32_w]
          rfl
         refine pu 9 25 (mk 10 1023) (any_of HT_.out (by kernel_rfl)) ?_
         refine done_ (done_of HT_.out (by kernel_rfl)) ?_
         try go_wp2
         go_ret
         exact ⟨re, bl HB⟩
       ·rw [if_neg c7] at H
        exact absurd H (by simp)
      ·rw [if_neg c6] at H
       exact absurd H (by simp)
     ·rw [if_neg c5] at H
      exact absurd H (by simp)
    ·rw [if_neg c4] at H
     have c4b0 : decide (x13_1 < (l0.length : Int)) = false := decide_eq_false c4
     clear c4
     obtain rfl := Option.some.inj H
     go_wp2
     go_ret
     exact ⟨re, bl HB⟩
 ·rw [if_neg c3] at H
  have c3b0 : ((l0.length : Int) == (l1.length : Int)) = false := beq_eq_false_iff_ne.mpr c3
  have c3b1 : ((l0.length : Int) != (l1.length : Int)) = true := bne_iff_ne.mpr c3
  have c3b2 : (l0.length == l1.length) = false := by first | simpa using c3 | (simp at c3 ⊢; omega)
  obtain rfl := Option.some.inj H
  go_enter Tryz.func36, Tryz.ntmps36
  go_wp2
  go_ret
  exact ⟨re, bl HB⟩
end Go.Proofs.YtbkknoipgmlcmaaGreatDoor.P

