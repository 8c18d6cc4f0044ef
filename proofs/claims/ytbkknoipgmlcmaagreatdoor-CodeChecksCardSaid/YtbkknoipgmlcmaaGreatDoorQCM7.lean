import Derived.Test.YtbkknoipgmlcmaaGreatDoorQCM6
set_option linter.unusedVariables false
set_option linter.unusedSimpArgs false
set_option maxHeartbeats 8000000
set_option maxRecDepth 100000
namespace Go.Proofs.YtbkknoipgmlcmaaGreatDoor.P
open Go.RowKit Go.Proofs.YtbkknoipgmlcmaaGreatDoorW.PrintWords Go.Proofs.YtbkknoipgmlcmaaGreatDoorW.PrintLast Go.Proofs.YtbkknoipgmlcmaaGreatDoorW.PrintMore
open Go.Proofs.FX
attribute [local go_sem] cell_twice le_add_cast
attribute [local go_sem] max2_int min2_int max_two min_two max_three min_three max_four min_four
mutual
def fluxionref29_Cut.l0 : Nat → List (S50) → Int → List (S50) → Int → Option ((List (S50)))
 | 0, _, _, _, _ => none
 | k + 1, x0, x1, x5, x6 => if x6 < (x0.length : Int) then (fluxionref29_Cut.j1 k x0 x1 x5 x6 (decide (x6 < 34))) else (fluxionref29_Cut.j1 k x0 x1 x5 x6 false)
def fluxionref29_Cut.j1 : Nat → List (S50) → Int → List (S50) → Int → Bool → Option ((List (S50)))
 | 0, _, _, _, _, _ => none
 | k + 1, x0, x1, x5, x6, x18 => if x18 = true then (if 0 ≤ x6 then (if x6 < (x0.length : Int) then (if 0 ≤ (mn (((rd_T50 x0 x6).f0).size : Int) 26) then (if (mn (((rd_T50 x0 x6).f0).size : Int) 26) ≤ (((rd_T50 x0 x6).f0).size : Int) then ((fluxionref08_CutTypes.f k ((rd_T50 x0 x6).f1)).bind fun t137 => ((fluxionref08_CutTypes.f k ((rd_T50 x0 x6).f2)).bind fun t140 => (fluxionref29_Cut.l1 k x0 x1 x5 x6 0 ((rd_T50 x0 x6).f0) ((rd_T50 x0 x6).f1) ((rd_T50 x0 x6).f2) ((rd_T50 x0 x6).f3) ((rd_T50 x0 x6).f4) (((rd_T50 x0 x6).f0).extract 0 ((mn (((rd_T50 x0 x6).f0).size : Int) 26) : Int).toNat) t137 t140 ((rd_T50 x0 x6).f3) ([] : List (S63))))) else (none)) else (none)) else (none)) else (none)) else (some x5)
def fluxionref29_Cut.l1 : Nat → List (S50) → Int → List (S50) → Int → Int → ByteArray → List (S115) → List (S115) → Int → List (S63) → ByteArray → List (S115) → List (S115) → Int → List (S63) → Option ((List (S50)))
 | 0, _, _, _, _, _, _, _, _, _, _, _, _, _, _, _ => none
 | k + 1, x0, x1, x5, x6, x9, x137000, x137001, x137002, x137003, x137004, x144000, x144001, x144002, x144003, x144004 => if x9 < (x137004.length : Int) then (if x1 > 0 then (if 0 ≤ x9 then ((fluxionref08_CutRat.f ((rd_T63 x137004 x9).f4.f0) ((rd_T63 x137004 x9).f4.f1) ((rd_T63 x137004 x9).f4.f2) ((rd_T63 x137004 x9).f4.f3) 260).bind fun bt146 => (if x144004.length < 1466015503701 then (fluxionref29_Cut.l1 k x0 (wrap64 (x1 - 1)) x5 x6 (wrap64 (x9 + 1)) x137000 x137001 x137002 x137003 x137004 x144000 x144001 x144002 x144003 (x144004 ++ [(⟨(rd_T63 x137004 x9).f0, (rd_T63 x137004 x9).f1, (rd_T63 x137004 x9).f2, (rd_T63 x137004 x9).f3, (⟨bt146.1, bt146.2.1, bt146.2.2.1, bt146.2.2.2.1⟩ : S61)⟩ : S63)])) else (none))) else (none)) else (if x5.length < 1466015503701 then (fluxionref29_Cut.l0 k x0 x1 (x5 ++ [(⟨x144000, x144001, x144002, x144003, x144004⟩ : S50)]) (wrap64 (x6 + 1))) else (none))) else (if x5.length < 1466015503701 then (fluxionref29_Cut.l0 k x0 x1 (x5 ++ [(⟨x144000, x144001, x144002, x144003, x144004⟩ : S50)]) (wrap64 (x6 + 1))) else (none))
end
def fluxionref29_Cut.f (k : Nat) (l0 : List (S50)) (a1 : Int) : Option ((List (S50))) := fluxionref29_Cut.l0 k l0 a1 ([] : List (S50)) 0
def fluxionref29_Cut.T6 : Bool × List (List Nat × List Nat) := (true, [([], []), ([0], [0]), ([], []), ([2], [2]), ([3], [3]), ([4], [4]), ([1, 5], [1, 5]), ([], []), ([7], [7]), ([8], [8]), ([], []), ([10], [10]), ([11, 9], [11]), ([], []), ([13], [13]), ([6, 9, 12, 14], [6, 9, 12, 14]), ([], []), ([16, 15, 12, 0, 1, 2, 3, 4, 5, 6, 7, 8, 9, 10, 11, 12, 13, 14, 15, 16], [15, 16])])
def fluxionref29_Cut.B6 : List Nat := [0, 1, 0, 4, 12, 28, 63, 0, 128, 384, 0, 1024, 3968, 0, 8192, 32767, 0, 131071]
theorem fluxionref29_Cut.tab6 : rtab .any (opsOf Tryz.f30 6) = fluxionref29_Cut.T6 := by kernel_rfl
theorem fluxionref29_Cut.bits6 : waitsOk fluxionref29_Cut.T6.2 fluxionref29_Cut.B6 = true := by kernel_rfl
theorem fluxionref29_Cut.calls (k : Nat) (A0 : Option Addr) (c0 : Nat) (l0 : List (S50)) (a1 : Int) (r : List (S50)) (w : World) (hr0 : Kd.C k50 w A0 l0.length l0) (hc0 : l0.length ≤ c0) (h : fluxionref29_Cut.f k l0 a1 = some r) :
 Calls Tryz.prog 30 #[.slice A0 l0.length c0, .int .i64 a1] w fun e w' => ∃ v0_ : Value, e = .returned (v0_) ∧ Kd.R k50 50 w' w.heap.size (fun _ => True) v0_ r ∧ Below w.heap.size w w' := by
 have hu50 := Tryz.underlying50
 have hu63 := Tryz.underlying63
 have hu61 := Tryz.underlying61
 have HR0 := aS hr0
 have HC0 := aS hc0
 clear hr0 hc0
 have HB := aS (Below.refl w.heap.size w)
 have H := h
 unfold fluxionref29_Cut.f at H
 clear h
 have H' := aS H
 clear H
 go_enter Tryz.func30, Tryz.ntmps30
 go_wp2
 go_loopg [1, 5, 6] k (fun kq v1 v5 v6 w' => ∃ (x1_1 : Int) (x5_1 : List (S50)) (x6_1 : Int), v1 = .int .i64 x1_1 ∧ v6 = .int .i64 x6_1 ∧ Aside0 (fluxionref29_Cut.l0 kq l0 x1_1 x5_1 x6_1 = some r) ∧ Aside0 (kq ≤ k) ∧ Aside0 (Kd.R k50 50 w' w.heap.size (fun _ => True) v5 x5_1) ∧ Aside0 (Below w.heap.size w w'))
 case atStart => exact ⟨(a1), (([] : List (S50))), (0), rs, rs, H', ⟨Nat.le_refl _⟩, ⟨by first | exact Kd.R_nil _ _ _ _ _ | exact Kd.N_nil _ _ _ _ _ | exact Kd.V_nil _ _ _ _ _ | exact Kd.Q_nil _ _ _ _ _ | exact Kd.S_nil _ _ _ _ _⟩, ⟨bl HB⟩⟩
 case round =>
  clear H'
  (try clear p2)
  obtain ⟨x1_1, x5_1, x6_1, rfl, rfl, HA, HK1, HO_5, HB⟩ := hrel
  cases gk with
  | zero => exact absurd HA.out (by simp [fluxionref29_Cut.l0])
  | succ k1 =>
   have H := HA.out
   clear HA
   simp only [fluxionref29_Cut.l0] at H
   have HC3 := aS H
   clear H
   go_upto_region 3 with (fail)
   go_cut [18] (fun v18 wc => ∃ (kq : Nat) (x18_2 : Bool), v18 = .bool x18_2 ∧ Aside0 (fluxionref29_Cut.j1 kq l0 x1_1 x5_1 x6_1 x18_2 = some r) ∧ Aside0 (kq ≤ k1) ∧ Aside0 (Kd.R k50 50 wc w.heap.size (fun _ => True) u5 x5_1) ∧ Aside0 (Below w.heap.size w wc))
   case first =>
    have H := HC3.out
    clear HC3
    by_cases c4 : x6_1 < (l0.length : Int)
    ·rw [if_pos c4] at H
     have c4b0 := dT c4
     clear c4
     (first | rw [c4b0] | (simp only [i64_w, i32_w]; rw [c4b0]) | skip)
     have H' := aS H
     clear H
     go_wp2
     go_meet
     case rel => exact ⟨_, (decide (x6_1 < 34)), rs, H', ⟨by have := HK1.out; first | omega | exact Nat.le_refl _⟩, ⟨by exact rA HO_5.out⟩, ⟨bl HB⟩⟩
    ·rw [if_neg c4] at H
     have c4b0 := dF c4
     clear c4
     (first | rw [c4b0] | (simp only [i64_w, i32_w]; rw [c4b0]) | skip)
     have H' := aS H
     clear H
     go_wp2
     go_meet
     case rel => exact ⟨_, (false), rs, H', ⟨by have := HK1.out; first | omega | exact Nat.le_refl _⟩, ⟨by exact rA HO_5.out⟩, ⟨bl HB⟩⟩
   case rest =>
    clear HC3
    (try clear p2); (try clear c3); (try clear c4); (try clear c4b0); (try clear p2)
    obtain ⟨kq, x18_2, rfl, HA, HJ2, HO_5, HB⟩ := hcut
    cases kq with
    | zero => exact absurd HA.out (by simp [fluxionref29_Cut.j1])
    | succ kj2 =>
     have H := HA.out
     clear HA
     simp only [fluxionref29_Cut.j1] at H
     by_cases c5 : x18_2 = true; rotate_left
     ·replace c5 := Bool.eq_false_iff.mpr c5
      subst c5
      rw [if_neg iN] at H
      obtain rfl := sI H
      go_wp2
      go_ret
      exact ⟨_, re, by exact rA HO_5.out, bl HB⟩
     subst c5
     rw [if_pos rfl] at H
     by_cases c6 : 0 ≤ x6_1; rotate_left
     ·rw [if_neg c6] at H
      cases H
     rw [if_pos c6] at H
     have c6b0 := dT c6
     clear c6
     by_cases c7 : x6_1 < (l0.length : Int); rotate_left
     ·rw [if_neg c7] at H
      cases H
     rw [if_pos c7] at H
     have c7b0 := dT c7
     clear c7
     obtain ⟨ji8, hji8⟩ : ∃ j_ : Int, (mn (((rd_T50 l0 x6_1).f0).size : Int) 26) = j_ := ⟨_, rfl⟩
     simp only [hji8] at H
     have hji8_ : (if 26 < (((rd_T50 l0 x6_1).f0).size : Int) then 26 else (((rd_T50 l0 x6_1).f0).size : Int)) = ji8 := hji8
     by_cases c9 : 0 ≤ (ji8); rotate_left
     ·rw [if_neg c9] at H
      cases H
     rw [if_pos c9] at H
     have c9b0 := eq_true c9
     have c9b1 := dT c9
     clear c9
     by_cases c10 : (ji8) ≤ (((rd_T50 l0 x6_1).f0).size : Int); rotate_left
     ·rw [if_neg c10] at H
      cases H
     rw [if_pos c10] at H
     have c10b0 := eq_true c10
     have c10b1 := dT c10
     clear c10
     replace H := bS H
     obtain ⟨t137, A110, H⟩ := H
     (try dsimp only at H)
     have A11 := aS A110
     clear A110
     replace H := bS H
     obtain ⟨t140, A120, H⟩ := H
     (try dsimp only at H)
     have A12 := aS A120
     clear A120
     have H' := aS H
     clear H
     have p135 : 0 ≤ (x6_1 : Int) := oa
     have q135 : x6_1 < (l0.length : Int) := oa
     obtain ⟨ad135, A135_1, c135_1, A135_2, c135_2, A135_4, c135_4, e135, hx135_0, hx135_1, hx135_2, hx135_3, hx135_4, hl135_1, hi135_1, hl135_2, hi135_2, hl135_4, hi135_4⟩ := at_T50 HR0.out x6_1 p135 q135
     cases e135
     replace hx135_0 := xb HB hx135_0
     replace hx135_1 := xb HB hx135_1
     replace hx135_2 := xb HB hx135_2
     replace hx135_3 := xb HB hx135_3
     replace hx135_4 := xb HB hx135_4
     have HR135_1 := aS hi135_1
     have HC135_1 := aS hl135_1
     clear hi135_1 hl135_1
     have HR135_2 := aS hi135_2
     have HC135_2 := aS hl135_2
     clear hi135_2 hl135_2
     have HR135_4 := aS hi135_4
     have HC135_4 := aS hl135_4
     clear hi135_4 hl135_4
     replace p135 := eq_true p135
     replace q135 := eq_true q135
     try go_wp2_with (first | ((with_reducible refine gate_dst (N := 7) rfl ?_); refine bx (N := 7) (cs := #[.string (⟨#[]⟩ : ByteArray), .slice none 0 0, .slice none 0 0, .int .i64 0, .slice none 0 0]) (t := 50) ?_; intro gb136 hg w13 hbox hb; replace HO_5 := aS (Kd.R_below (Kd.R_elderB (by exact rA HO_5.out) gb136 (Nat.le_of_eq hg.symm)) hb); have BK136 := aS (hbox); have GW136 := (gz hg HB : Aside0 (w.heap.size ≤ gb136)); have GE136 := (gz hg HB : Aside0 (w.heap.size ≤ gb136)); replace HB := aS (bs_ (bl HB) hb); clear hb hbox hg; obtain ⟨hcz14_0, hcz14_1, hcz14_2, hcz14_3, hcz14_4, hfz14_0, hfz14_1, hfz14_2, hfz14_3, hfz14_4⟩ := cf5 BK136.out))
     have n0_ : Aside0 (Kd.R k50 50 (((((w13.setCell ⟨gb136, 0, none⟩ (.string ((rd_T50 l0 x6_1).f0))).setCell ⟨gb136, 1, none⟩ (.slice A135_1 ((rd_T50 l0 x6_1).f1).length c135_1)).setCell ⟨gb136, 2, none⟩ (.slice A135_2 ((rd_T50 l0 x6_1).f2).length c135_2)).setCell ⟨gb136, 3, none⟩ (.int .i64 ((rd_T50 l0 x6_1).f3))).setCell ⟨gb136, 4, none⟩ (.slice A135_4 ((rd_T50 l0 x6_1).f4).length c135_4)) w.heap.size (fun k_ => k_ ≠ gb136) u5 x5_1) := ⟨by exact Kd.R_mono (rF (Kd.R_mono HO_5.out (fun k_ hk => (⟨hk, hk.2⟩ : _ ∧ k_ ≠ gb136)))) (fun _ hk => hk.1.2)⟩
     have n1_ : Aside0 ((((((w13.setCell ⟨gb136, 0, none⟩ (.string ((rd_T50 l0 x6_1).f0))).setCell ⟨gb136, 1, none⟩ (.slice A135_1 ((rd_T50 l0 x6_1).f1).length c135_1)).setCell ⟨gb136, 2, none⟩ (.slice A135_2 ((rd_T50 l0 x6_1).f2).length c135_2)).setCell ⟨gb136, 3, none⟩ (.int .i64 ((rd_T50 l0 x6_1).f3))).setCell ⟨gb136, 4, none⟩ (.slice A135_4 ((rd_T50 l0 x6_1).f4).length c135_4)).heap[gb136]? = some (.cells #[.string ((rd_T50 l0 x6_1).f0), .slice A135_1 ((rd_T50 l0 x6_1).f1).length c135_1, .slice A135_2 ((rd_T50 l0 x6_1).f2).length c135_2, .int .i64 ((rd_T50 l0 x6_1).f3), .slice A135_4 ((rd_T50 l0 x6_1).f4).length c135_4] 50 (0, 0))) := ⟨bp BK136⟩
     have n2_ : Aside0 (Below w.heap.size w (((((w13.setCell ⟨gb136, 0, none⟩ (.string ((rd_T50 l0 x6_1).f0))).setCell ⟨gb136, 1, none⟩ (.slice A135_1 ((rd_T50 l0 x6_1).f1).length c135_1)).setCell ⟨gb136, 2, none⟩ (.slice A135_2 ((rd_T50 l0 x6_1).f2).length c135_2)).setCell ⟨gb136, 3, none⟩ (.int .i64 ((rd_T50 l0 x6_1).f3))).setCell ⟨gb136, 4, none⟩ (.slice A135_4 ((rd_T50 l0 x6_1).f4).length c135_4))) := ⟨bl HB⟩
     (try clear HO_5)
     (try clear BK136)
     (try clear HB)
     generalize (((((w13.setCell ⟨gb136, 0, none⟩ (.string ((rd_T50 l0 x6_1).f0))).setCell ⟨gb136, 1, none⟩ (.slice A135_1 ((rd_T50 l0 x6_1).f1).length c135_1)).setCell ⟨gb136, 2, none⟩ (.slice A135_2 ((rd_T50 l0 x6_1).f2).length c135_2)).setCell ⟨gb136, 3, none⟩ (.int .i64 ((rd_T50 l0 x6_1).f3))).setCell ⟨gb136, 4, none⟩ (.slice A135_4 ((rd_T50 l0 x6_1).f4).length c135_4)) = w15 at n0_ n1_ n2_ ⊢
     have HO_5 := n0_
     have BK136 := n1_
     have HB := n2_
     clear n0_ n1_ n2_
     replace HO_5 := aS (Kd.R_drew HO_5.out)
     replace BK136 := aS (blk_drew BK136.out)
     replace HB := aS (below_drew1 HB.out)
     refine start_ (n := 18) (S := fun w' => w'.cell? ⟨gb136, 0, none⟩ = some (.string ((rd_T50 l0 x6_1).f0)) ∧ w'.cell? ⟨gb136, 1, none⟩ = some (.slice A135_1 ((rd_T50 l0 x6_1).f1).length c135_1) ∧ w'.cell? ⟨gb136, 2, none⟩ = some (.slice A135_2 ((rd_T50 l0 x6_1).f2).length c135_2) ∧ w'.cell? ⟨gb136, 3, none⟩ = some (.int .i64 ((rd_T50 l0 x6_1).f3)) ∧ w'.cell? ⟨gb136, 4, none⟩ = some (.slice A135_4 ((rd_T50 l0 x6_1).f4).length c135_4)) (ds := []) (mk 18 0) (by kernel_rfl) rfl (by kernel_rfl) ⟨(blk_cell BK136.out 0).trans rfl, (blk_cell BK136.out 1).trans rfl, (blk_cell BK136.out 2).trans rfl, (blk_cell BK136.out 3).trans rfl, (blk_cell BK136.out 4).trans rfl⟩ (fun hHeld => ?_); refine with_tabW fluxionref29_Cut.tab6 fluxionref29_Cut.bits6 (fun HT_ HW_ => ?_)
     generalize w15.drew = w16 at HO_5 BK136 HB hHeld ⊢
     refine pu 0 25 (mk 18 1) (any_of HT_.out (by kernel_rfl)) ?_
     refine pu 2 27 (mk 18 5) (any_of HT_.out (by kernel_rfl)) ?_
     refine pu 7 32 (mk 18 133) (any_of HT_.out (by kernel_rfl)) ?_
     refine pu 10 35 (mk 18 1157) (any_of HT_.out (by kernel_rfl)) ?_
     refine pu 13 38 (mk 18 9349) (any_of HT_.out (by kernel_rfl)) ?_
     refine tk 1 26 (mk 18 9351) (take_ofW HT_.out HW_.out (by kernel_rfl)) hHeld ?_
     refine tk 3 28 (mk 18 9359) (take_ofW HT_.out HW_.out (by kernel_rfl)) hHeld ?_
     refine pu 4 29 (mk 18 9375) (any_of HT_.out (by kernel_rfl)) ?_
     refine pu 5 30 (mk 18 9407) (any_of HT_.out (by kernel_rfl)) ?_
     refine pu 6 31 (mk 18 9471) (any_of HT_.out (by kernel_rfl)) ?_
     refine tk 8 33 (mk 18 9727) (take_ofW HT_.out HW_.out (by kernel_rfl)) hHeld ?_
     refine tk 11 36 (mk 18 11775) (take_ofW HT_.out HW_.out (by kernel_rfl)) hHeld ?_
     refine tk 14 39 (mk 18 28159) (take_ofW HT_.out HW_.out (by kernel_rfl)) hHeld ?_
     refine join_ (σ := Value × Value × Nat) 1 (mk 18 131071) (fun s_ => [(34, s_.1), (37, s_.2.1), (8, .pointer (some ⟨s_.2.2, 0, none⟩)), (40, .agg #[.string (((rd_T50 l0 x6_1).f0).extract 0 ((ji8) : Int).toNat), s_.1, s_.2.1, .int .i64 ((rd_T50 l0 x6_1).f3), .slice none 0 0])]) (fun s_ w' => (w'.cell? ⟨gb136, 0, none⟩ = some (.string ((rd_T50 l0 x6_1).f0)) ∧ w'.cell? ⟨gb136, 1, none⟩ = some (.slice A135_1 ((rd_T50 l0 x6_1).f1).length c135_1) ∧ w'.cell? ⟨gb136, 2, none⟩ = some (.slice A135_2 ((rd_T50 l0 x6_1).f2).length c135_2) ∧ w'.cell? ⟨gb136, 3, none⟩ = some (.int .i64 ((rd_T50 l0 x6_1).f3)) ∧ w'.cell? ⟨gb136, 4, none⟩ = some (.slice A135_4 ((rd_T50 l0 x6_1).f4).length c135_4)) ∧ (Kd.S k115 115 w' w.heap.size (fun k_ => some k_ ≠ (s_.2.1 : Value).ownBlock) s_.1 t137) ∧ (Kd.S k115 115 w' w.heap.size (fun k_ => some k_ ≠ (s_.1 : Value).ownBlock) s_.2.1 t140) ∧ (Kd.R k50 50 w' w.heap.size (fun k_ => some k_ ≠ (s_.1 : Value).ownBlock ∧ some k_ ≠ (s_.2.1 : Value).ownBlock ∧ k_ ≠ gb136 ∧ k_ ≠ s_.2.2) u5 x5_1) ∧ (w'.heap[gb136]? = some (.cells #[.string ((rd_T50 l0 x6_1).f0), .slice A135_1 ((rd_T50 l0 x6_1).f1).length c135_1, .slice A135_2 ((rd_T50 l0 x6_1).f2).length c135_2, .int .i64 ((rd_T50 l0 x6_1).f3), .slice A135_4 ((rd_T50 l0 x6_1).f4).length c135_4] 50 (0, 0))) ∧ (w'.heap[s_.2.2]? = some (.cells #[.string (⟨#[]⟩ : ByteArray), .slice none 0 0, .slice none 0 0, .int .i64 0, .slice none 0 0] 50 (0, 0))) ∧ (w.heap.size ≤ s_.2.2) ∧ (w.heap.size ≤ s_.2.2) ∧ (gb136 ≠ s_.2.2) ∧ (s_.2.2 ≠ gb136) ∧ (Below w.heap.size w w')) ?_ ?_
     rotate_left
     ·intro hCont
      refine two_ (i := 9) (j := 16) (Ni := some 34) (Nj := some 8) (mk 18 28671) (mk 18 93695) rfl rfl rfl rfl (two_of HT_.out (by kernel_rfl)) (by decide) (by decide) (fun K hK => ?_) (fun K hK => ?_)
      ·skip
       refine goes_ Tryz.func84 (by kernel_rfl) rfl #[.slice A135_1 ((rd_T50 l0 x6_1).f1).length c135_1] (by rfl) rfl rfl (by (try simp only [List.map_toArray, List.map_cons, List.map_nil]); first | done | rfl | (simp only [List.length_drop, List.length_take]; rfl) | (simp only [ByteArray.size_append, Int.toNat_natCast]; rfl)) ?_
       with_reducible refine (fluxionref08_CutTypes.calls kj2 _ _ ((rd_T50 l0 x6_1).f1) t137 _ ?side1 ?side2 A11.out).mono ?_
       (case side1 => exact cb HR135_1 HB)
       (case side2 => exact HC135_1.out)
       rintro e w17 ⟨v138, rfl, ho0, hb⟩
       refine ⟨_, rfl, ?_⟩
       replace HO_5 := aS (Kd.R_elder' (by exact rA HO_5.out) (Kd.S_base ho0) hb)
       have HO139 := aS (Kd.S_lower ho0 (below_size (bl HB)))
       replace BK136 := aS (blk_below (bj BK136) hb)
       replace HB := aS (bs_ (bl HB) hb)
       (try clear hb)
       (try clear hb2)
       (try clear hk)
       (try clear hi)
       (try clear ho0)
       refine hK.out _ _ ⟨(blk_cell BK136.out 0).trans rfl, (blk_cell BK136.out 1).trans rfl, (blk_cell BK136.out 2).trans rfl, (blk_cell BK136.out 3).trans rfl, (blk_cell BK136.out 4).trans rfl⟩ (fun hHeld => ?_)
       clear hK K
       refine norm_ (a' := ?_) ?_ ?_
       rotate_left
       ·show Act.put _ (some 34) _ = _
        simp only [Act.put, List.setIfInBounds_toArray, List.set_cons_zero, List.set_cons_succ, i64_w, i32_w]
        rfl
       refine two_ (i := 12) (j := 16) (Ni := some 37) (Nj := some 8) (mk 18 32767) (mk 18 94207) rfl rfl rfl rfl (two_of HT_.out (by kernel_rfl)) (by decide) (by decide) (fun K hK => ?_) (fun K hK => ?_)
       ·skip
        refine goes_ Tryz.func84 (by kernel_rfl) rfl #[.slice A135_2 ((rd_T50 l0 x6_1).f2).length c135_2] (by rfl) rfl rfl (by (try simp only [List.map_toArray, List.map_cons, List.map_nil]); first | done | rfl | (simp only [List.length_drop, List.length_take]; rfl) | (simp only [ByteArray.size_append, Int.toNat_natCast]; rfl)) ?_
        with_reducible refine (fluxionref08_CutTypes.calls kj2 _ _ ((rd_T50 l0 x6_1).f2) t140 _ ?side1 ?side2 A12.out).mono ?_
        (case side1 => exact cb HR135_2 HB)
        (case side2 => exact HC135_2.out)
        rintro e w18 ⟨v141, rfl, ho0, hb⟩
        refine ⟨_, rfl, ?_⟩
        replace HO_5 := aS (Kd.R_elder' (by exact rA HO_5.out) (Kd.S_base ho0) hb)
        have HO142 := aS (Kd.S_lower (Kd.S_new' ho0 (Kd.S_lt (by exact sA HO139.out))) (below_size (bl HB)))
        replace HO139 := aS (Kd.S_elder' (by exact sA HO139.out) (Kd.S_base ho0) hb)
        replace BK136 := aS (blk_below (bj BK136) hb)
        replace HB := aS (bs_ (bl HB) hb)
        (try clear hb)
        (try clear hb2)
        (try clear hk)
        (try clear hi)
        (try clear ho0)
        obtain ⟨Ao19, co19, eo19⟩ := Kd.S_slice HO142.out
        (first | subst eo19 | (injection eo19 with f1_ f2_ f3_; have f4_ := f1_.symm; have f5_ := f3_.symm; clear f1_ f2_ f3_; subst f4_; subst f5_))
        obtain ⟨Ao20, co20, eo20⟩ := Kd.S_slice HO139.out
        (first | subst eo20 | (injection eo20 with f1_ f2_ f3_; have f4_ := f1_.symm; have f5_ := f3_.symm; clear f1_ f2_ f3_; subst f4_; subst f5_))
        refine hK.out _ _ ⟨(blk_cell BK136.out 0).trans rfl, (blk_cell BK136.out 1).trans rfl, (blk_cell BK136.out 2).trans rfl, (blk_cell BK136.out 3).trans rfl, (blk_cell BK136.out 4).trans rfl⟩ (fun hHeld => ?_)
        clear hK K
        refine norm_ (a' := ?_) ?_ ?_
        rotate_left
        ·show Act.put _ (some 37) _ = _
         simp only [Act.put, List.setIfInBounds_toArray, List.set_cons_zero, List.set_cons_succ, i64_w, i32_w]
         rfl
        refine pu 15 40 (mk 18 65535) (any_of HT_.out (by kernel_rfl)) ?_
        refine one_ (i := 16) (N := some 8) (mk 18 131071) rfl rfl (one_of HT_.out (by kernel_rfl)) (by decide) (fun K hK => ?_)
        refine box_step ?hg (N := 8) ?hd (cs := #[.string (⟨#[]⟩ : ByteArray), .slice none 0 0, .slice none 0 0, .int .i64 0, .slice none 0 0]) (t := 50) ?hr ?_; (case hd => rfl); (case hg => rfl); (case hr => first | (go_simp; done) | (go_simp; rfl))
        intro gb143 hg w21 hbox hb
        have n0_ := aS (Kd.R_below (Kd.R_elderB (by exact rA HO_5.out) gb143 (Nat.le_of_eq hg.symm)) hb)
        have n1_ := aS (Kd.S_below (by exact sA HO139.out) hb)
        have n2_ := aS (Kd.S_below (by exact sA HO142.out) hb)
        have n3_ := aS (blk_below (bj BK136) hb)
        have n4_ := aS (bs_ (bl HB) hb)
        have n5_ := aS (hbox)
        have n6_ := (gz hg HB : Aside0 (w.heap.size ≤ gb143))
        have n7_ := (gz hg HB : Aside0 (w.heap.size ≤ gb143))
        have n8_ := aS ((by rw [hg]; exact Nat.ne_of_lt (blk_lt (bj BK136)) : gb136 ≠ gb143))
        have n9_ := aS ((by rw [hg]; exact Nat.ne_of_gt (blk_lt (bj BK136)) : gb143 ≠ gb136))
        clear HO_5
        clear HO139
        clear HO142
        clear BK136
        clear HB
        have HO_5 := n0_
        have HO139 := n1_
        have HO142 := n2_
        have BK136 := n3_
        have HB := n4_
        have BK143 := n5_
        have GW143 := n6_
        have GE143 := n7_
        have NB136_143 := n8_
        have NB143_136 := n9_
        clear n0_ n1_ n2_ n3_ n4_ n5_ n6_ n7_ n8_ n9_
        clear hb hbox hg
        refine hK.out _ _ ⟨(blk_cell BK136.out 0).trans rfl, (blk_cell BK136.out 1).trans rfl, (blk_cell BK136.out 2).trans rfl, (blk_cell BK136.out 3).trans rfl, (blk_cell BK136.out 4).trans rfl⟩ (fun hHeld => ?_)
        clear hK K
        refine norm_ (a' := ?_) ?_ ?_
        rotate_left
        ·show Act.put _ (some 8) _ = _
         simp only [Act.put, List.setIfInBounds_toArray, List.set_cons_zero, List.set_cons_succ, i64_w, i32_w]
         rfl
        exact norm_ (by simp only [putAll, Act.put, List.setIfInBounds_toArray, List.set_cons_zero, List.set_cons_succ]) (hCont (.slice Ao20 t137.length co20, .slice Ao19 t140.length co19, gb143) _ ⟨hHeld, (by exact sA (Kd.S_mono HO139.out (fun _ hk => hk.2))), (by exact sA (Kd.S_mono HO142.out (fun _ hk => hk.2))), (by exact rA (Kd.R_mono HO_5.out (fun _ hk => ⟨hk.1.1.2, ⟨hk.1.2, ⟨hk.1.1.1, hk.2⟩⟩⟩))), (bk BK136), (bk BK143), GW143.out, GE143.out, NB136_143.out, NB143_136.out, (bl HB)⟩)
       ·skip
        refine box_step ?hg (N := 8) ?hd (cs := #[.string (⟨#[]⟩ : ByteArray), .slice none 0 0, .slice none 0 0, .int .i64 0, .slice none 0 0]) (t := 50) ?hr ?_; (case hd => rfl); (case hg => rfl); (case hr => first | (go_simp; done) | (go_simp; rfl))
        intro gb143 hg w18 hbox hb
        have n0_ := aS (Kd.R_below (Kd.R_elderB (by exact rA HO_5.out) gb143 (Nat.le_of_eq hg.symm)) hb)
        have n1_ := aS (Kd.S_below (by exact sA HO139.out) hb)
        have n2_ := aS (blk_below (bj BK136) hb)
        have n3_ := aS (bs_ (bl HB) hb)
        have n4_ := aS (hbox)
        have n5_ := (gz hg HB : Aside0 (w.heap.size ≤ gb143))
        have n6_ := (gz hg HB : Aside0 (w.heap.size ≤ gb143))
        have n7_ := aS ((by rw [hg]; exact Nat.ne_of_lt (blk_lt (bj BK136)) : gb136 ≠ gb143))
        have n8_ := aS ((by rw [hg]; exact Nat.ne_of_gt (blk_lt (bj BK136)) : gb143 ≠ gb136))
        clear HO_5
        clear HO139
        clear BK136
        clear HB
        have HO_5 := n0_
        have HO139 := n1_
        have BK136 := n2_
        have HB := n3_
        have BK143 := n4_
        have GW143 := n5_
        have GE143 := n6_
        have NB136_143 := n7_
        have NB143_136 := n8_
        clear n0_ n1_ n2_ n3_ n4_ n5_ n6_ n7_ n8_
        clear hb hbox hg
        refine hK.out _ _ ⟨(blk_cell BK136.out 0).trans rfl, (blk_cell BK136.out 1).trans rfl, (blk_cell BK136.out 2).trans rfl, (blk_cell BK136.out 3).trans rfl, (blk_cell BK136.out 4).trans rfl⟩ (fun hHeld => ?_)
        clear hK K
        refine norm_ (a' := ?_) ?_ ?_
        rotate_left
        ·show Act.put _ (some 8) _ = _
         simp only [Act.put, List.setIfInBounds_toArray, List.set_cons_zero, List.set_cons_succ, i64_w, i32_w]
         rfl
        refine one_ (i := 12) (N := some 37) (mk 18 98303) rfl rfl (one_of HT_.out (by kernel_rfl)) (by decide) (fun K hK => ?_)
        refine goes_ Tryz.func84 (by kernel_rfl) rfl #[.slice A135_2 ((rd_T50 l0 x6_1).f2).length c135_2] (by rfl) rfl rfl (by (try simp only [List.map_toArray, List.map_cons, List.map_nil]); first | done | rfl | (simp only [List.length_drop, List.length_take]; rfl) | (simp only [ByteArray.size_append, Int.toNat_natCast]; rfl)) ?_
        with_reducible refine (fluxionref08_CutTypes.calls kj2 _ _ ((rd_T50 l0 x6_1).f2) t140 _ ?side1 ?side2 A12.out).mono ?_
        (case side1 => exact cb HR135_2 HB)
        (case side2 => exact HC135_2.out)
        rintro e w19 ⟨v141, rfl, ho0, hb⟩
        refine ⟨_, rfl, ?_⟩
        replace HO_5 := aS (Kd.R_elder' (by exact rA HO_5.out) (Kd.S_base ho0) hb)
        have HO142 := aS (Kd.S_lower (Kd.S_new' ho0 (Kd.S_lt (by exact sA HO139.out))) (below_size (bl HB)))
        replace HO139 := aS (Kd.S_elder' (by exact sA HO139.out) (Kd.S_base ho0) hb)
        replace BK136 := aS (blk_below (bj BK136) hb)
        replace BK143 := aS (blk_below (bj BK143) hb)
        replace HB := aS (bs_ (bl HB) hb)
        (try clear hb)
        (try clear hb2)
        (try clear hk)
        (try clear hi)
        (try clear ho0)
        obtain ⟨Ao20, co20, eo20⟩ := Kd.S_slice HO142.out
        (first | subst eo20 | (injection eo20 with f1_ f2_ f3_; have f4_ := f1_.symm; have f5_ := f3_.symm; clear f1_ f2_ f3_; subst f4_; subst f5_))
        obtain ⟨Ao21, co21, eo21⟩ := Kd.S_slice HO139.out
        (first | subst eo21 | (injection eo21 with f1_ f2_ f3_; have f4_ := f1_.symm; have f5_ := f3_.symm; clear f1_ f2_ f3_; subst f4_; subst f5_))
        refine hK.out _ _ ⟨(blk_cell BK136.out 0).trans rfl, (blk_cell BK136.out 1).trans rfl, (blk_cell BK136.out 2).trans rfl, (blk_cell BK136.out 3).trans rfl, (blk_cell BK136.out 4).trans rfl⟩ (fun hHeld => ?_)
        clear hK K
        refine norm_ (a' := ?_) ?_ ?_
        rotate_left
        ·show Act.put _ (some 37) _ = _
         simp only [Act.put, List.setIfInBounds_toArray, List.set_cons_zero, List.set_cons_succ, i64_w, i32_w]
         rfl
        refine pu 15 40 (mk 18 131071) (any_of HT_.out (by kernel_rfl)) ?_
        exact norm_ (by simp only [putAll, Act.put, List.setIfInBounds_toArray, List.set_cons_zero, List.set_cons_succ]) (hCont (.slice Ao21 t137.length co21, .slice Ao20 t140.length co20, gb143) _ ⟨hHeld, (by exact sA (Kd.S_mono HO139.out (fun _ hk => hk.2))), (by exact sA (Kd.S_mono HO142.out (fun _ hk => hk.2))), (by exact rA (Kd.R_mono HO_5.out (fun _ hk => ⟨hk.1.1.2, ⟨hk.2, ⟨hk.1.1.1, hk.1.2⟩⟩⟩))), (bk BK136), (bk BK143), GW143.out, GE143.out, NB136_143.out, NB143_136.out, (bl HB)⟩)
      ·skip
       refine box_step ?hg (N := 8) ?hd (cs := #[.string (⟨#[]⟩ : ByteArray), .slice none 0 0, .slice none 0 0, .int .i64 0, .slice none 0 0]) (t := 50) ?hr ?_; (case hd => rfl); (case hg => rfl); (case hr => first | (go_simp; done) | (go_simp; rfl))
       intro gb143 hg w17 hbox hb
       have n0_ := aS (Kd.R_below (Kd.R_elderB (by exact rA HO_5.out) gb143 (Nat.le_of_eq hg.symm)) hb)
       have n1_ := aS (blk_below (bj BK136) hb)
       have n2_ := aS (bs_ (bl HB) hb)
       have n3_ := aS (hbox)
       have n4_ := (gz hg HB : Aside0 (w.heap.size ≤ gb143))
       have n5_ := (gz hg HB : Aside0 (w.heap.size ≤ gb143))
       have n6_ := aS ((by rw [hg]; exact Nat.ne_of_lt (blk_lt (bj BK136)) : gb136 ≠ gb143))
       have n7_ := aS ((by rw [hg]; exact Nat.ne_of_gt (blk_lt (bj BK136)) : gb143 ≠ gb136))
       clear HO_5
       clear BK136
       clear HB
       have HO_5 := n0_
       have BK136 := n1_
       have HB := n2_
       have BK143 := n3_
       have GW143 := n4_
       have GE143 := n5_
       have NB136_143 := n6_
       have NB143_136 := n7_
       clear n0_ n1_ n2_ n3_ n4_ n5_ n6_ n7_
       clear hb hbox hg
       refine hK.out _ _ ⟨(blk_cell BK136.out 0).trans rfl, (blk_cell BK136.out 1).trans rfl, (blk_cell BK136.out 2).trans rfl, (blk_cell BK136.out 3).trans rfl, (blk_cell BK136.out 4).trans rfl⟩ (fun hHeld => ?_)
       clear hK K
       refine norm_ (a' := ?_) ?_ ?_
       rotate_left
       ·show Act.put _ (some 8) _ = _
        simp only [Act.put, List.setIfInBounds_toArray, List.set_cons_zero, List.set_cons_succ, i64_w, i32_w]
        rfl
       refine one_ (i := 9) (N := some 34) (mk 18 94207) rfl rfl (one_of HT_.out (by kernel_rfl)) (by decide) (fun K hK => ?_)
       refine goes_ Tryz.func84 (by kernel_rfl) rfl #[.slice A135_1 ((rd_T50 l0 x6_1).f1).length c135_1] (by rfl) rfl rfl (by (try simp only [List.map_toArray, List.map_cons, List.map_nil]); first | done | rfl | (simp only [List.length_drop, List.length_take]; rfl) | (simp only [ByteArray.size_append, Int.toNat_natCast]; rfl)) ?_
       with_reducible refine (fluxionref08_CutTypes.calls kj2 _ _ ((rd_T50 l0 x6_1).f1) t137 _ ?side1 ?side2 A11.out).mono ?_
       (case side1 => exact cb HR135_1 HB)
       (case side2 => exact HC135_1.out)
       rintro e w18 ⟨v138, rfl, ho0, hb⟩
       refine ⟨_, rfl, ?_⟩
       replace HO_5 := aS (Kd.R_elder' (by exact rA HO_5.out) (Kd.S_base ho0) hb)
       have HO139 := aS (Kd.S_lower ho0 (below_size (bl HB)))
       replace BK136 := aS (blk_below (bj BK136) hb)
       replace BK143 := aS (blk_below (bj BK143) hb)
       replace HB := aS (bs_ (bl HB) hb)
       (try clear hb)
       (try clear hb2)
       (try clear hk)
       (try clear hi)
       (try clear ho0)
       refine hK.out _ _ ⟨(blk_cell BK136.out 0).trans rfl, (blk_cell BK136.out 1).trans rfl, (blk_cell BK136.out 2).trans rfl, (blk_cell BK136.out 3).trans rfl, (blk_cell BK136.out 4).trans rfl⟩ (fun hHeld => ?_)
       clear hK K
       refine norm_ (a' := ?_) ?_ ?_
       rotate_left
       ·show Act.put _ (some 34) _ = _
        simp only [Act.put, List.setIfInBounds_toArray, List.set_cons_zero, List.set_cons_succ, i64_w, i32_w]
        rfl
       refine one_ (i := 12) (N := some 37) (mk 18 98303) rfl rfl (one_of HT_.out (by kernel_rfl)) (by decide) (fun K hK => ?_)
       refine goes_ Tryz.func84 (by kernel_rfl) rfl #[.slice A135_2 ((rd_T50 l0 x6_1).f2).length c135_2] (by rfl) rfl rfl (by (try simp only [List.map_toArray, List.map_cons, List.map_nil]); first | done | rfl | (simp only [List.length_drop, List.length_take]; rfl) | (simp only [ByteArray.size_append, Int.toNat_natCast]; rfl)) ?_
       with_reducible refine (fluxionref08_CutTypes.calls kj2 _ _ ((rd_T50 l0 x6_1).f2) t140 _ ?side1 ?side2 A12.out).mono ?_
       (case side1 => exact cb HR135_2 HB)
       (case side2 => exact HC135_2.out)
       rintro e w19 ⟨v141, rfl, ho0, hb⟩
       refine ⟨_, rfl, ?_⟩
       replace HO_5 := aS (Kd.R_elder' (by exact rA HO_5.out) (Kd.S_base ho0) hb)
       have HO142 := aS (Kd.S_lower (Kd.S_new' ho0 (Kd.S_lt (by exact sA HO139.out))) (below_size (bl HB)))
       replace HO139 := aS (Kd.S_elder' (by exact sA HO139.out) (Kd.S_base ho0) hb)
       replace BK136 := aS (blk_below (bj BK136) hb)
       replace BK143 := aS (blk_below (bj BK143) hb)
       replace HB := aS (bs_ (bl HB) hb)
       (try clear hb)
       (try clear hb2)
       (try clear hk)
       (try clear hi)
       (try clear ho0)
       obtain ⟨Ao20, co20, eo20⟩ := Kd.S_slice HO142.out
       (first | subst eo20 | (injection eo20 with f1_ f2_ f3_; have f4_ := f1_.symm; have f5_ := f3_.symm; clear f1_ f2_ f3_; subst f4_; subst f5_))
       obtain ⟨Ao21, co21, eo21⟩ := Kd.S_slice HO139.out
       (first | subst eo21 | (injection eo21 with f1_ f2_ f3_; have f4_ := f1_.symm; have f5_ := f3_.symm; clear f1_ f2_ f3_; subst f4_; subst f5_))
       refine hK.out _ _ ⟨(blk_cell BK136.out 0).trans rfl, (blk_cell BK136.out 1).trans rfl, (blk_cell BK136.out 2).trans rfl, (blk_cell BK136.out 3).trans rfl, (blk_cell BK136.out 4).trans rfl⟩ (fun hHeld => ?_)
       clear hK K
       refine norm_ (a' := ?_) ?_ ?_
       rotate_left
       ·show Act.put _ (some 37) _ = _
        simp only [Act.put, List.setIfInBounds_toArray, List.set_cons_zero, List.set_cons_succ, i64_w, i32_w]
        rfl
       refine pu 15 40 (mk 18 131071) (any_of HT_.out (by kernel_rfl)) ?_
       exact norm_ (by simp only [putAll, Act.put, List.setIfInBounds_toArray, List.set_cons_zero, List.set_cons_succ]) (hCont (.slice Ao21 t137.length co21, .slice Ao20 t140.length co20, gb143) _ ⟨hHeld, (by exact sA (Kd.S_mono HO139.out (fun _ hk => hk.2))), (by exact sA (Kd.S_mono HO142.out (fun _ hk => hk.2))), (by exact rA (Kd.R_mono HO_5.out (fun _ hk => ⟨hk.1.2, ⟨hk.2, ⟨hk.1.1.1, hk.1.1.2⟩⟩⟩))), (bk BK136), (bk BK143), GW143.out, GE143.out, NB136_143.out, NB143_136.out, (bl HB)⟩)
     rintro ⟨v138, v141, gb143⟩ w22 ⟨hS_, h0_, h1_, h2_, h3_, h4_, h5_, h6_, h7_, h8_, h9_⟩
     have n0_ : Aside0 (Kd.S k115 115 w22 w.heap.size (fun k_ => some k_ ≠ (v141 : Value).ownBlock) v138 t137) := ⟨h0_⟩
     have n1_ : Aside0 (Kd.S k115 115 w22 w.heap.size (fun k_ => some k_ ≠ (v138 : Value).ownBlock) v141 t140) := ⟨h1_⟩
     have n2_ : Aside0 (Kd.R k50 50 w22 w.heap.size (fun k_ => some k_ ≠ (v138 : Value).ownBlock ∧ some k_ ≠ (v141 : Value).ownBlock ∧ k_ ≠ gb136 ∧ k_ ≠ gb143) u5 x5_1) := ⟨h2_⟩
     have n3_ : Aside0 (w22.heap[gb136]? = some (.cells #[.string ((rd_T50 l0 x6_1).f0), .slice A135_1 ((rd_T50 l0 x6_1).f1).length c135_1, .slice A135_2 ((rd_T50 l0 x6_1).f2).length c135_2, .int .i64 ((rd_T50 l0 x6_1).f3), .slice A135_4 ((rd_T50 l0 x6_1).f4).length c135_4] 50 (0, 0))) := ⟨h3_⟩
     have n4_ : Aside0 (w22.heap[gb143]? = some (.cells #[.string (⟨#[]⟩ : ByteArray), .slice none 0 0, .slice none 0 0, .int .i64 0, .slice none 0 0] 50 (0, 0))) := ⟨h4_⟩
     have n5_ : Aside0 (w.heap.size ≤ gb143) := ⟨h5_⟩
     have n6_ : Aside0 (w.heap.size ≤ gb143) := ⟨h6_⟩
     have n7_ : Aside0 (gb136 ≠ gb143) := ⟨h7_⟩
     have n8_ : Aside0 (gb143 ≠ gb136) := ⟨h8_⟩
     have n9_ : Aside0 (Below w.heap.size w w22) := ⟨h9_⟩
     clear HO_5
     clear BK136
     clear HB
     clear h0_ h1_ h2_ h3_ h4_ h5_ h6_ h7_ h8_ h9_
     have HO139 := n0_
     have HO142 := n1_
     have HO_5 := n2_
     have BK136 := n3_
     have BK143 := n4_
     have GW143 := n5_
     have GE143 := n6_
     have NB136_143 := n7_
     have NB143_136 := n8_
     have HB := n9_
     clear n0_ n1_ n2_ n3_ n4_ n5_ n6_ n7_ n8_ n9_
     have hHeld : w22.cell? ⟨gb136, 0, none⟩ = some (.string ((rd_T50 l0 x6_1).f0)) ∧ w22.cell? ⟨gb136, 1, none⟩ = some (.slice A135_1 ((rd_T50 l0 x6_1).f1).length c135_1) ∧ w22.cell? ⟨gb136, 2, none⟩ = some (.slice A135_2 ((rd_T50 l0 x6_1).f2).length c135_2) ∧ w22.cell? ⟨gb136, 3, none⟩ = some (.int .i64 ((rd_T50 l0 x6_1).f3)) ∧ w22.cell? ⟨gb136, 4, none⟩ = some (.slice A135_4 ((rd_T50 l0 x6_1).f4).length c135_4) := hS_
     obtain ⟨Ao23, co23, eo23⟩ := Kd.S_slice HO142.out
     (first | subst eo23 | (injection eo23 with f1_ f2_ f3_; have f4_ := f1_.symm; have f5_ := f3_.symm; clear f1_ f2_ f3_; subst f4_; subst f5_))
     obtain ⟨Ao24, co24, eo24⟩ := Kd.S_slice HO139.out
     (first | subst eo24 | (injection eo24 with f1_ f2_ f3_; have f4_ := f1_.symm; have f5_ := f3_.symm; clear f1_ f2_ f3_; subst f4_; subst f5_))
     refine norm_ (a' := ?_) ?_ ?_
     rotate_left
     ·simp only [putAll, Act.put, List.setIfInBounds_toArray, List.set_cons_zero, List.set_cons_succ]
      rfl
     refine one_ (i := 17) (N := none) (mk 18 262143) rfl rfl (one_of HT_.out (by kernel_rfl)) (by decide) (fun K hK => ?_)
     have hs25 : w22.cell? ⟨gb143, 0, none⟩ = some (.string (⟨#[]⟩ : ByteArray)) := (blk_cell BK143.out 0).trans rfl
     have hfs25 := blk_frozen BK143.out 0
     have hns25_0 := NB136_143.out
     have hms25_0 := NB143_136.out
     have hs26 : w22.cell? ⟨gb143, 1, none⟩ = some (.slice none 0 0) := (blk_cell BK143.out 1).trans rfl
     have hfs26 := blk_frozen BK143.out 1
     have hns26_0 := NB136_143.out
     have hms26_0 := NB143_136.out
     have hs27 : w22.cell? ⟨gb143, 2, none⟩ = some (.slice none 0 0) := (blk_cell BK143.out 2).trans rfl
     have hfs27 := blk_frozen BK143.out 2
     have hns27_0 := NB136_143.out
     have hms27_0 := NB143_136.out
     have hs28 : w22.cell? ⟨gb143, 3, none⟩ = some (.int .i64 0) := (blk_cell BK143.out 3).trans rfl
     have hfs28 := blk_frozen BK143.out 3
     have hns28_0 := NB136_143.out
     have hms28_0 := NB143_136.out
     have hs29 : w22.cell? ⟨gb143, 4, none⟩ = some (.slice none 0 0) := (blk_cell BK143.out 4).trans rfl
     have hfs29 := blk_frozen BK143.out 4
     have hns29_0 := NB136_143.out
     have hms29_0 := NB143_136.out
     refine skip_ (w1 := ?_) (by rfl) rfl ?_ ?_
     rotate_left
     ·go_simp
      rfl
     refine hK.out _ _ ⟨((cell_far (p := ⟨gb143, _, none⟩) NB136_143.out _).trans (((cell_far (p := ⟨gb143, _, none⟩) NB136_143.out _).trans (((cell_far (p := ⟨gb143, _, none⟩) NB136_143.out _).trans (((cell_far (p := ⟨gb143, _, none⟩) NB136_143.out _).trans (((cell_far (p := ⟨gb143, _, none⟩) NB136_143.out _).trans (hHeld.1)))))))))), ((cell_far (p := ⟨gb143, _, none⟩) NB136_143.out _).trans (((cell_far (p := ⟨gb143, _, none⟩) NB136_143.out _).trans (((cell_far (p := ⟨gb143, _, none⟩) NB136_143.out _).trans (((cell_far (p := ⟨gb143, _, none⟩) NB136_143.out _).trans (((cell_far (p := ⟨gb143, _, none⟩) NB136_143.out _).trans (hHeld.2.1)))))))))), ((cell_far (p := ⟨gb143, _, none⟩) NB136_143.out _).trans (((cell_far (p := ⟨gb143, _, none⟩) NB136_143.out _).trans (((cell_far (p := ⟨gb143, _, none⟩) NB136_143.out _).trans (((cell_far (p := ⟨gb143, _, none⟩) NB136_143.out _).trans (((cell_far (p := ⟨gb143, _, none⟩) NB136_143.out _).trans (hHeld.2.2.1)))))))))), ((cell_far (p := ⟨gb143, _, none⟩) NB136_143.out _).trans (((cell_far (p := ⟨gb143, _, none⟩) NB136_143.out _).trans (((cell_far (p := ⟨gb143, _, none⟩) NB136_143.out _).trans (((cell_far (p := ⟨gb143, _, none⟩) NB136_143.out _).trans (((cell_far (p := ⟨gb143, _, none⟩) NB136_143.out _).trans (hHeld.2.2.2.1)))))))))), ((cell_far (p := ⟨gb143, _, none⟩) NB136_143.out _).trans (((cell_far (p := ⟨gb143, _, none⟩) NB136_143.out _).trans (((cell_far (p := ⟨gb143, _, none⟩) NB136_143.out _).trans (((cell_far (p := ⟨gb143, _, none⟩) NB136_143.out _).trans (((cell_far (p := ⟨gb143, _, none⟩) NB136_143.out _).trans (hHeld.2.2.2.2))))))))))⟩ (fun hHeld => ?_)
     clear hK K
     refine done_ (done_of HT_.out (by kernel_rfl)) ?_
     try go_wp2
     go_loopg [1, 9] kj2 (fun kq v1 v9 w' => ∃ (x1_3 : Int) (x9_3 : Int) (x144004_3 : List (S63)) (u144004 : Value), v1 = .int .i64 x1_3 ∧ v9 = .int .i64 x9_3 ∧ Aside0 (fluxionref29_Cut.l1 kq l0 x1_3 x5_1 x6_1 x9_3 ((rd_T50 l0 x6_1).f0) ((rd_T50 l0 x6_1).f1) ((rd_T50 l0 x6_1).f2) ((rd_T50 l0 x6_1).f3) ((rd_T50 l0 x6_1).f4) (((rd_T50 l0 x6_1).f0).extract 0 ((ji8) : Int).toNat) t137 t140 ((rd_T50 l0 x6_1).f3) x144004_3 = some r) ∧ Aside0 (kq ≤ kj2) ∧ Aside0 (Kd.R k50 50 w' w.heap.size (fun k_ => some k_ ≠ ((.slice Ao24 t137.length co24) : Value).ownBlock ∧ some k_ ≠ ((.slice Ao23 t140.length co23) : Value).ownBlock ∧ some k_ ≠ (u144004 : Value).ownBlock ∧ k_ ≠ gb136 ∧ k_ ≠ gb143) u5 x5_1) ∧ Aside0 (Kd.S k115 115 w' w.heap.size (fun k_ => some k_ ≠ ((.slice Ao23 t140.length co23) : Value).ownBlock) (.slice Ao24 t137.length co24) t137) ∧ Aside0 (Kd.S k115 115 w' w.heap.size (fun k_ => some k_ ≠ ((.slice Ao24 t137.length co24) : Value).ownBlock) (.slice Ao23 t140.length co23) t140) ∧ Aside0 (Kd.S k63 63 w' w.heap.size (fun _ => True) u144004 x144004_3) ∧ Aside0 (w'.heap[gb136]? = some (.cells #[.string ((rd_T50 l0 x6_1).f0), (.slice A135_1 ((rd_T50 l0 x6_1).f1).length c135_1), (.slice A135_2 ((rd_T50 l0 x6_1).f2).length c135_2), .int .i64 ((rd_T50 l0 x6_1).f3), (.slice A135_4 ((rd_T50 l0 x6_1).f4).length c135_4)] 50 (0, 0))) ∧ Aside0 (w'.heap[gb143]? = some (.cells #[.string (((rd_T50 l0 x6_1).f0).extract 0 ((ji8) : Int).toNat), (.slice Ao24 t137.length co24), (.slice Ao23 t140.length co23), .int .i64 ((rd_T50 l0 x6_1).f3), u144004] 50 (0, 0))) ∧ Aside0 (Below w.heap.size w w'))
     case atStart => exact ⟨(x1_1), (0), (([] : List (S63))), (.slice none 0 0), rs, rs, H', ⟨Nat.le_refl _⟩, ⟨by exact Kd.R_mono (rF (Kd.R_mono HO_5.out (fun k_ hk => (⟨hk, hk.2.2.2⟩ : _ ∧ k_ ≠ gb143)))) (fun _ hk => ⟨hk.1.1, ⟨hk.1.2.1, ⟨(by simp [Value.ownBlock]), ⟨hk.1.2.2.1, hk.1.2.2.2⟩⟩⟩⟩)⟩, ⟨by exact Kd.S_mono (sF (Kd.S_types HO139.out BK143.out (by decide))) (fun _ hk => hk.1)⟩, ⟨by exact Kd.S_mono (sF (Kd.S_types HO142.out BK143.out (by decide))) (fun _ hk => hk.1)⟩, ⟨by first | exact Kd.S_nil _ _ _ _ _ | exact Kd.N_nil _ _ _ _ _ | exact Kd.V_nil _ _ _ _ _ | exact Kd.Q_nil _ _ _ _ _ | exact Kd.R_nil _ _ _ _ _⟩, ⟨bp BK136⟩, ⟨bp BK143⟩, ⟨bl HB⟩⟩
     case round =>
      clear H'
      (try clear c1); (try clear p1); (try clear q1); (try clear hx1); (try clear p2); (try clear c3); (try clear c4); (try clear c4b0); (try clear c5); (try clear c6); (try clear c6b0); (try clear c7); (try clear c7b0); (try clear c8); (try clear c9); (try clear c9b0); (try clear c9b1); (try clear c10); (try clear c10b0); (try clear c10b1); (try clear c13); (try clear p13); (try clear q13); (try clear hx13); (try clear hcz14_0); (try clear hcz14_1); (try clear hcz14_2); (try clear hcz14_3); (try clear hcz14_4); (try clear hfz14_0); (try clear hfz14_1); (try clear hfz14_2); (try clear hfz14_3); (try clear hfz14_4); (try clear hx135_0); (try clear hx135_1); (try clear hx135_2); (try clear hx135_3); (try clear hx135_4); (try clear p135); (try clear p2); (try clear q135)
      obtain ⟨x1_3, x9_3, x144004_3, u144004, rfl, rfl, HA, HK3, HO_5, HO_144001, HO_144002, HO_144004, BK136, BK143, HB⟩ := hrel
      cases gk with
      | zero => exact absurd HA.out (by simp [fluxionref29_Cut.l1])
      | succ k3 =>
       have H := HA.out
       clear HA
       simp only [fluxionref29_Cut.l1] at H
       by_cases c30 : x9_3 < (((rd_T50 l0 x6_1).f4).length : Int)
       focus
        rw [if_pos c30] at H
        have c30b0 := dT c30
        clear c30
        by_cases c31 : x1_3 > 0
        focus
         rw [if_pos c31] at H
         have c31b0 := dT c31
         clear c31
         by_cases c32 : 0 ≤ x9_3
         focus
          rw [if_pos c32] at H
          have c32b0 := dT c32
          clear c32
          replace H := bS H
          obtain ⟨⟨t146, t147, t148, t151, t154⟩, A330, H⟩ := H
          (try dsimp only at H)
          have A33 := aS A330
          clear A330
          by_cases c34 : x144004_3.length < 1466015503701
          focus
           rw [if_pos c34] at H
           have LMc34 := aS c34
           clear c34
           obtain ⟨y155, hy155⟩ : ∃ y_ : List (S63), y_ = (x144004_3 ++ [(⟨(rd_T63 ((rd_T50 l0 x6_1).f4) x9_3).f0, (rd_T63 ((rd_T50 l0 x6_1).f4) x9_3).f1, (rd_T63 ((rd_T50 l0 x6_1).f4) x9_3).f2, (rd_T63 ((rd_T50 l0 x6_1).f4) x9_3).f3, (⟨t146, t147, t148, t151⟩ : S61)⟩ : S63)]) := ⟨_, rfl⟩
           first | replace H := bsB H hy155 | rw [← hy155] at H
           have Ny155 := aS hy155
           clear hy155
           have H' := aS H
           clear H
           have hnb35 := NB136_143.out
           have hnc35 := NB143_136.out
           obtain ⟨_, _, _, _, _, _, _, _, _, _⟩ := cf5 BK136.out
           have p144 : 0 ≤ (x9_3 : Int) := oa
           have q144 : x9_3 < (((rd_T50 l0 x6_1).f4).length : Int) := oa
           obtain ⟨ad144, A144_6, c144_6, A144_7, c144_7, e144, hx144_0, hx144_1, hx144_2, hx144_3, hx144_4, hx144_5, hx144_6, hx144_7, hl144_6, hi144_6, hl144_7, hi144_7⟩ := at_T63 HR135_4.out x9_3 p144 q144
           cases e144
           replace hx144_0 := xb HB hx144_0
           replace hx144_1 := xb HB hx144_1
           replace hx144_2 := xb HB hx144_2
           replace hx144_3 := xb HB hx144_3
           replace hx144_4 := xb HB hx144_4
           replace hx144_5 := xb HB hx144_5
           replace hx144_6 := xb HB hx144_6
           replace hx144_7 := xb HB hx144_7
           have HR144_6 := aS hi144_6
           have HC144_6 := aS hl144_6
           clear hi144_6 hl144_6
           have HR144_7 := aS hi144_7
           have HC144_7 := aS hl144_7
           clear hi144_7 hl144_7
           replace p144 := eq_true p144
           replace q144 := eq_true q144
          rotate_left 1
          focus
           rw [if_neg c34] at H
           cases H
         rotate_left 1
         focus
          rw [if_neg c32] at H
          cases H
        rotate_left 1
        focus
         rw [if_neg c31] at H
         have c31b0 := dF c31
         clear c31
         by_cases c51 : x5_1.length < 1466015503701
         focus
          rw [if_pos c51] at H
          have LMc51 := aS c51
          clear c51
          obtain ⟨y158, hy158⟩ : ∃ y_ : List (S50), y_ = (x5_1 ++ [(⟨(((rd_T50 l0 x6_1).f0).extract 0 ((ji8) : Int).toNat), t137, t140, ((rd_T50 l0 x6_1).f3), x144004_3⟩ : S50)]) := ⟨_, rfl⟩
          first | replace H := bsB H hy158 | rw [← hy158] at H
          have Ny158 := aS hy158
          clear hy158
          have H' := aS H
          clear H
          have hnb52 := NB136_143.out
          have hnc52 := NB143_136.out
          obtain ⟨_, _, _, _, _, _, _, _, _, _⟩ := cf5 BK136.out
          obtain ⟨_, _, _, _, _, _, _, _, _, _⟩ := cf5 BK143.out
          obtain ⟨Ao56, co56, eo56⟩ := Kd.S_slice HO_144004.out
          subst eo56
         rotate_left 1
         focus
          rw [if_neg c51] at H
          cases H
        rotate_left 1
       rotate_left 2
       focus
        rw [if_neg c30] at H
        have c30b0 := dF c30
        clear c30
        by_cases c57 : x5_1.length < 1466015503701
        focus
         rw [if_pos c57] at H
         have LMc57 := aS c57
         clear c57
         obtain ⟨y161, hy161⟩ : ∃ y_ : List (S50), y_ = (x5_1 ++ [(⟨(((rd_T50 l0 x6_1).f0).extract 0 ((ji8) : Int).toNat), t137, t140, ((rd_T50 l0 x6_1).f3), x144004_3⟩ : S50)]) := ⟨_, rfl⟩
         first | replace H := bsB H hy161 | rw [← hy161] at H
         have Ny161 := aS hy161
         clear hy161
         have H' := aS H
         clear H
         have hnb58 := NB136_143.out
         have hnc58 := NB143_136.out
         obtain ⟨_, _, _, _, _, _, _, _, _, _⟩ := cf5 BK136.out
         obtain ⟨_, _, _, _, _, _, _, _, _, _⟩ := cf5 BK143.out
         obtain ⟨Ao62, co62, eo62⟩ := Kd.S_slice HO_144004.out
         subst eo62
        rotate_left 1
        focus
         rw [if_neg c57] at H
         cases H
       rotate_left 1
       all_goals (go_wp2_with (first | ((with_reducible refine gate_dst (N := 10) rfl ?_); refine bx (N := 10) (cs := #[.int .i64 0, .int .i64 0, .int .i64 0, .int .i64 0, .int .i64 0, .bool false, .slice none 0 0, .slice none 0 0]) (t := 63) ?_; intro gb145 hg wq1 hbox hb; have n0_ := aS (Kd.R_below (Kd.R_elderB (by exact rA HO_5.out) gb145 (Nat.le_of_eq hg.symm)) hb); have n1_ := aS (Kd.S_below (by exact sA HO_144001.out) hb); have n2_ := aS (Kd.S_below (by exact sA HO_144002.out) hb); have n3_ := aS (Kd.S_below (Kd.S_elderB (by exact sA HO_144004.out) gb145 (Nat.le_of_eq hg.symm)) hb); have n4_ := aS (blk_below (bj BK136) hb); have n5_ := aS (blk_below (bj BK143) hb); have n6_ := aS (bs_ (bl HB) hb); have n7_ := aS (hbox); have n8_ := (gz hg HB : Aside0 (w.heap.size ≤ gb145)); have n9_ := (gz hg HB : Aside0 (w.heap.size ≤ gb145)); have n10_ := aS ((by rw [hg]; exact Nat.ne_of_lt (blk_lt (bj BK136)) : gb136 ≠ gb145)); have n11_ := aS ((by rw [hg]; exact Nat.ne_of_gt (blk_lt (bj BK136)) : gb145 ≠ gb136)); have n12_ := aS ((by rw [hg]; exact Nat.ne_of_lt (blk_lt (bj BK143)) : gb143 ≠ gb145)); have n13_ := aS ((by rw [hg]; exact Nat.ne_of_gt (blk_lt (bj BK143)) : gb145 ≠ gb143)); clear HO_5; clear HO_144001; clear HO_144002; clear HO_144004; clear BK136; clear BK143; clear HB; have HO_5 := n0_; have HO_144001 := n1_; have HO_144002 := n2_; have HO_144004 := n3_; have BK136 := n4_; have BK143 := n5_; have HB := n6_; have BK145 := n7_; have GW145 := n8_; have GE145 := n9_; have NB136_145 := n10_; have NB145_136 := n11_; have NB143_145 := n12_; have NB145_143 := n13_; clear n0_ n1_ n2_ n3_ n4_ n5_ n6_ n7_ n8_ n9_ n10_ n11_ n12_ n13_; clear hb hbox hg; have hnb38 := NB145_136.out; have hnc38 := NB136_145.out; have hnb39 := NB145_143.out; have hnc39 := NB143_145.out; obtain ⟨_, _, _, _, _, _, _, _, _, _, _, _, _, _, _, _⟩ := cf8 BK145.out) | ((with_reducible refine gate_callee (f := 85) rfl ?_); refine gl 60 Tryz.func85 #[.agg #[.int .i64 ((rd_T63 ((rd_T50 l0 x6_1).f4) x9_3).f4.f0), .bool ((rd_T63 ((rd_T50 l0 x6_1).f4) x9_3).f4.f1), .slice A144_6 ((rd_T63 ((rd_T50 l0 x6_1).f4) x9_3).f4.f2).length c144_6, .slice A144_7 ((rd_T63 ((rd_T50 l0 x6_1).f4) x9_3).f4.f3).length c144_7], .int .i64 260] ?_; (with_reducible refine (fluxionref08_CutRat.calls ((rd_T63 ((rd_T50 l0 x6_1).f4) x9_3).f4.f0) ((rd_T63 ((rd_T50 l0 x6_1).f4) x9_3).f4.f1) _ _ ((rd_T63 ((rd_T50 l0 x6_1).f4) x9_3).f4.f2) _ _ ((rd_T63 ((rd_T50 l0 x6_1).f4) x9_3).f4.f3) 260 t146 t147 t148 t151 t154 _ ?side1 ?side2 ?side3 ?side4 A33.out).mono ?_); (case side1 => exact Kd.C_below HR144_6.out (bl HB)); (case side2 => exact HC144_6.out); (case side3 => exact Kd.C_below HR144_7.out (bl HB)); (case side4 => exact HC144_7.out); rintro e wq2 ⟨v149, v152, rfl, ho0, ho1, hb⟩; refine ⟨_, rfl, ?_⟩; replace HO_5 := aS (Kd.R_mono (Kd.R_told (Kd.R_told (Kd.R_old (by exact (Kd.R_mono (rF (Kd.R_mono HO_5.out (fun k_ hk => (⟨hk, hk.2⟩ : _ ∧ k_ ≠ gb145)))) (fun _ h_ => h_.1))) hb) (Kd.R_base ho0)) (Kd.R_base ho1)) (fun _ h_ => h_.1)); replace HO_144001 := aS (Kd.S_below (by exact (Kd.S_mono (sF (Kd.S_types HO_144001.out BK145.out (by decide))) (fun _ h_ => h_.1))) hb); replace HO_144002 := aS (Kd.S_below (by exact (Kd.S_mono (sF (Kd.S_types HO_144002.out BK145.out (by decide))) (fun _ h_ => h_.1))) hb); replace HO_144004 := aS (Kd.S_mono (Kd.S_told (Kd.S_told (Kd.S_old (by exact (Kd.S_mono (sF (Kd.S_mono HO_144004.out (fun k_ hk => (⟨hk, hk.2⟩ : _ ∧ k_ ≠ gb145)))) (fun _ h_ => h_.1))) hb) (Kd.R_base ho0)) (Kd.R_base ho1)) (fun _ h_ => h_.1)); have HO150 := aS (Kd.R_lower ho0 (below_size (bl HB))); have HO153 := aS (Kd.R_lower ho1 (below_size (bl HB))); replace BK136 := aS (blk_below (bj BK136) hb); replace BK143 := aS (blk_below (bj BK143) hb); replace BK145 := aS (blk_below (g := gb145) (o := .cells #[.int .i64 ((rd_T63 ((rd_T50 l0 x6_1).f4) x9_3).f0), .int .i64 ((rd_T63 ((rd_T50 l0 x6_1).f4) x9_3).f1), .int .i64 ((rd_T63 ((rd_T50 l0 x6_1).f4) x9_3).f2), .int .i64 ((rd_T63 ((rd_T50 l0 x6_1).f4) x9_3).f3), .int .i64 ((rd_T63 ((rd_T50 l0 x6_1).f4) x9_3).f4.f0), .bool ((rd_T63 ((rd_T50 l0 x6_1).f4) x9_3).f4.f1), .slice A144_6 ((rd_T63 ((rd_T50 l0 x6_1).f4) x9_3).f4.f2).length c144_6, .slice A144_7 ((rd_T63 ((rd_T50 l0 x6_1).f4) x9_3).f4.f3).length c144_7] 63 (0, 0)) (bp BK145) hb); replace HB := aS (bs_ (bl HB) hb); clear hb ho0; (try clear ho1); obtain ⟨_, _, _, _, _, _, _, _, _, _, _, _, _, _, _, _⟩ := cf8 BK145.out; obtain ⟨Aoq1, coq1, eoq1⟩ := Kd.R_slice HO150.out; subst eoq1; obtain ⟨Aoq2, coq2, eoq2⟩ := Kd.R_slice HO153.out; subst eoq2) | ((with_reducible refine gate_store (t := 61) (p := 63) rfl ?_); refine store_event (t := 61) (p := 63) (v := ?vo_w45) (w1 := ((((wq2.setCell ⟨gb145, 4, none⟩ (.int .i64 t146)).setCell ⟨gb145, 5, none⟩ (.bool t147)).setCell ⟨gb145, 6, none⟩ (.slice Aoq1 t148.length coq1)).setCell ⟨gb145, 7, none⟩ (.slice Aoq2 t151.length coq2))) ?hg ?ho ?hn ?hr ?_; (case ho => rfl); (case hg => rfl); (case hn => rfl); (case hr => first | (go_simp; done) | (go_simp; rfl)); intro wq3 hw; have n0_ : Aside0 (Kd.R k50 50 wq3 w.heap.size (fun k_ => some k_ ≠ (.slice Ao24 t137.length co24 : Value).ownBlock ∧ some k_ ≠ (.slice Ao23 t140.length co23 : Value).ownBlock ∧ some k_ ≠ (u144004 : Value).ownBlock ∧ some k_ ≠ (.slice Aoq1 t148.length coq1 : Value).ownBlock ∧ some k_ ≠ (.slice Aoq2 t151.length coq2 : Value).ownBlock ∧ k_ ≠ gb136 ∧ k_ ≠ gb143 ∧ k_ ≠ gb145) u5 x5_1) := ⟨(by rw [hw]; exact (by exact Kd.R_mono (rF (Kd.R_mono HO_5.out (fun k_ hk => (⟨hk, hk.1.1.2⟩ : _ ∧ k_ ≠ gb145)))) (fun _ hk => ⟨hk.1.1.1.1.1, ⟨hk.1.1.1.1.2.1, ⟨hk.1.1.1.1.2.2.1, ⟨hk.1.1.2, ⟨hk.1.2, ⟨hk.1.1.1.1.2.2.2.1, ⟨hk.1.1.1.1.2.2.2.2, hk.1.1.1.2⟩⟩⟩⟩⟩⟩⟩)))⟩; have n1_ : Aside0 (Kd.S k115 115 wq3 w.heap.size (fun k_ => some k_ ≠ (.slice Ao23 t140.length co23 : Value).ownBlock) (.slice Ao24 t137.length co24) t137) := ⟨(by rw [hw]; exact (by exact Kd.S_mono (sF (Kd.S_types HO_144001.out BK145.out (by decide))) (fun _ hk => hk.1)))⟩; have n2_ : Aside0 (Kd.S k115 115 wq3 w.heap.size (fun k_ => some k_ ≠ (.slice Ao24 t137.length co24 : Value).ownBlock) (.slice Ao23 t140.length co23) t140) := ⟨(by rw [hw]; exact (by exact Kd.S_mono (sF (Kd.S_types HO_144002.out BK145.out (by decide))) (fun _ hk => hk.1)))⟩; have n3_ : Aside0 (Kd.S k63 63 wq3 w.heap.size (fun k_ => some k_ ≠ (.slice Aoq1 t148.length coq1 : Value).ownBlock ∧ some k_ ≠ (.slice Aoq2 t151.length coq2 : Value).ownBlock ∧ k_ ≠ gb145) u144004 x144004_3) := ⟨(by rw [hw]; exact (by exact Kd.S_mono (sF (Kd.S_mono HO_144004.out (fun k_ hk => (⟨hk, hk.1.1.2⟩ : _ ∧ k_ ≠ gb145)))) (fun _ hk => ⟨hk.1.1.2, ⟨hk.1.2, hk.1.1.1.2⟩⟩)))⟩; have n4_ : Aside0 (Kd.R (Kd.int .u32) 145 wq3 w.heap.size (fun k_ => some k_ ≠ (.slice Aoq2 t151.length coq2 : Value).ownBlock) (.slice Aoq1 t148.length coq1) t148) := ⟨(by rw [hw]; exact (by exact Kd.R_mono (rF (Kd.R_types HO150.out BK145.out (by decide))) (fun _ hk => hk.1)))⟩; have n5_ : Aside0 (Kd.R (Kd.int .u32) 145 wq3 w.heap.size (fun k_ => some k_ ≠ (.slice Aoq1 t148.length coq1 : Value).ownBlock) (.slice Aoq2 t151.length coq2) t151) := ⟨(by rw [hw]; exact (by exact Kd.R_mono (rF (Kd.R_types HO153.out BK145.out (by decide))) (fun _ hk => hk.1)))⟩; have n6_ := bw hw BK136; have n7_ := bw hw BK143; have n8_ : Aside0 (wq3.heap[gb145]? = some (.cells #[.int .i64 ((rd_T63 ((rd_T50 l0 x6_1).f4) x9_3).f0), .int .i64 ((rd_T63 ((rd_T50 l0 x6_1).f4) x9_3).f1), .int .i64 ((rd_T63 ((rd_T50 l0 x6_1).f4) x9_3).f2), .int .i64 ((rd_T63 ((rd_T50 l0 x6_1).f4) x9_3).f3), .int .i64 t146, .bool t147, .slice Aoq1 t148.length coq1, .slice Aoq2 t151.length coq2] 63 (0, 0))) := ⟨(by rw [hw]; exact (bp BK145))⟩; have n9_ : Aside0 (Below w.heap.size w wq3) := ⟨(by rw [hw]; exact (bl HB))⟩; clear hw; clear HO_5; clear HO_144001; clear HO_144002; clear HO_144004; clear HO150; clear HO153; clear BK136; clear BK143; clear BK145; clear HB; have HO_5 := n0_; have HO_144001 := n1_; have HO_144002 := n2_; have HO_144004 := n3_; have HO150 := n4_; have HO153 := n5_; have BK136 := n6_; have BK143 := n7_; have BK145 := n8_; have HB := n9_; clear n0_ n1_ n2_ n3_ n4_ n5_ n6_ n7_ n8_ n9_; obtain ⟨_, _, _, _, _, _, _, _, _, _⟩ := cf5 BK143.out; obtain ⟨_, _, _, _, _, _, _, _, _, _, _, _, _, _, _, _⟩ := cf8 BK145.out) | ((with_reducible refine gate_builtin (b := .append) (xs := #[.tmp 65, .tmp 67]) rfl ?_); at_builtin; refine Kd.S_append k63 (w0 := w) w.heap.size rfl (.tmp 65) (.tmp 67) 48 63 (.agg #[(.int .i64 0), (.int .i64 0), (.int .i64 0), (.int .i64 0), (.int .i64 0), (.bool false), (.slice none 0 0), (.slice none 0 0)]) 96 rfl Tryz.underlying48 info63 rfl (by decide) (by omega) u144004 x144004_3 (⟨(rd_T63 ((rd_T50 l0 x6_1).f4) x9_3).f0, (rd_T63 ((rd_T50 l0 x6_1).f4) x9_3).f1, (rd_T63 ((rd_T50 l0 x6_1).f4) x9_3).f2, (rd_T63 ((rd_T50 l0 x6_1).f4) x9_3).f3, (⟨t146, t147, t148, t151⟩ : S61)⟩ : S63) [.int .i64 ((rd_T63 ((rd_T50 l0 x6_1).f4) x9_3).f0), .int .i64 ((rd_T63 ((rd_T50 l0 x6_1).f4) x9_3).f1), .int .i64 ((rd_T63 ((rd_T50 l0 x6_1).f4) x9_3).f2), .int .i64 ((rd_T63 ((rd_T50 l0 x6_1).f4) x9_3).f3), .int .i64 t146, .bool t147, .slice Aoq1 t148.length coq1, .slice Aoq2 t151.length coq2] (fun k_ => k_ ≠ gb145) (fun k_ => some k_ = (.slice Aoq1 t148.length coq1 : Value).ownBlock ∨ some k_ = (.slice Aoq2 t151.length coq2 : Value).ownBlock) rfl rfl ?aP (fun k_ hk_ => hk_.elim (fun h_ => ((Kd.R_mono (ok' := fun k_ => ((fun k_ => k_ ≠ gb145)) k_ ∧ some k_ ≠ (u144004 : Value).ownBlock) (Kd.R_types (Kd.R_apart' (HO150.out) (Kd.S_typed HO_144004.out) (by decide)) BK145.out (by decide)) (fun k_ hk => ⟨hk.2, hk.1.2⟩))).1 k_ h_.symm) (fun h_ => ((Kd.R_mono (ok' := fun k_ => ((fun k_ => k_ ≠ gb145)) k_ ∧ some k_ ≠ (u144004 : Value).ownBlock) (Kd.R_types (Kd.R_apart' (HO153.out) (Kd.S_typed HO_144004.out) (by decide)) BK145.out (by decide)) (fun k_ hk => ⟨hk.2, hk.1.2⟩))).1 k_ h_.symm)) ?aF ?aO ?aB ?aS ?aL ?_; (case aP => exact k63_mkM _ _ _ (⟨(rd_T63 ((rd_T50 l0 x6_1).f4) x9_3).f0, (rd_T63 ((rd_T50 l0 x6_1).f4) x9_3).f1, (rd_T63 ((rd_T50 l0 x6_1).f4) x9_3).f2, (rd_T63 ((rd_T50 l0 x6_1).f4) x9_3).f3, (⟨t146, t147, t148, t151⟩ : S61)⟩ : S63) (Kd.R_mono (Kd.R_tight rfl (Kd.R_mono (ok' := fun k_ => ((fun k_ => k_ ≠ gb145)) k_ ∧ some k_ ≠ (u144004 : Value).ownBlock) (Kd.R_types (Kd.R_apart' (HO150.out) (Kd.S_typed HO_144004.out) (by decide)) BK145.out (by decide)) (fun k_ hk => ⟨hk.2, hk.1.2⟩))) (fun _ h_ => Or.inl h_)) (Kd.R_mono (Kd.R_tight rfl (Kd.R_mono (ok' := fun k_ => ((fun k_ => k_ ≠ gb145)) k_ ∧ some k_ ≠ (u144004 : Value).ownBlock) (Kd.R_types (Kd.R_apart' (HO153.out) (Kd.S_typed HO_144004.out) (by decide)) BK145.out (by decide)) (fun k_ hk => ⟨hk.2, hk.1.2⟩))) (fun _ h_ => Or.inr (h_)))); (case aB => exact (bl HB)); (case aF => exact (fun k_ hk => Kd.freshB (bj BK145) k_ hk)); (case aO => exact (by exact sA (Kd.S_mono HO_144004.out (fun k_ hk => ⟨hk.2.2, fun e_ => e_.elim (fun h_ => hk.1 h_) (fun h_ => hk.2.1 h_)⟩)))); (case aS => exact (below_size (bl HB))); (case aL => have := LMc34.out; omega); intro v156 wq4 ho hb hg hat; rw [← Ny155.out] at ho; replace HO_5 := aS (Kd.R_after (ok := (fun k_ => some k_ ≠ (.slice Ao24 t137.length co24 : Value).ownBlock ∧ some k_ ≠ (.slice Ao23 t140.length co23 : Value).ownBlock ∧ some k_ ≠ (.slice Aoq1 t148.length coq1 : Value).ownBlock ∧ some k_ ≠ (.slice Aoq2 t151.length coq2 : Value).ownBlock ∧ k_ ≠ gb136 ∧ k_ ≠ gb143 ∧ k_ ≠ gb145)) (by exact rA (Kd.R_mono HO_5.out (fun _ hk => ⟨⟨hk.1, ⟨hk.2.1, ⟨hk.2.2.2.1, ⟨hk.2.2.2.2.1, ⟨hk.2.2.2.2.2.1, ⟨hk.2.2.2.2.2.2.1, hk.2.2.2.2.2.2.2⟩⟩⟩⟩⟩⟩, hk.2.2.1⟩))) hg hat); replace HO_144001 := aS (Kd.S_over' (by exact sA HO_144001.out) (Kd.S_typed (by exact sA HO_144004.out)) (by decide) hg); replace HO_144002 := aS (Kd.S_over' (by exact sA HO_144002.out) (Kd.S_typed (by exact sA HO_144004.out)) (by decide) hg); replace BK136 := aS (blk_grown (bj BK136) hg (Kd.S_ne HO_144004.out BK136.out (by decide))); replace BK143 := aS (blk_grown (bj BK143) hg (Kd.S_ne HO_144004.out BK143.out (by decide))); replace BK145 := aS (blk_grown (bj BK145) hg (Kd.S_away HO_144004.out (fun _ hk => hk.2.2))); replace HB := aS (hb); have HO157 := aS (ho); clear HO_144004 HO150 HO153; clear ho hb hg hat; obtain ⟨Aoq3, coq3, eoq3⟩ := Kd.S_slice HO157.out; subst eoq3; obtain ⟨_, _, _, _, _, _, _, _, _, _⟩ := cf5 BK143.out) | ((with_reducible refine gate_builtin (b := .append) (xs := #[.tmp 72, .tmp 74]) rfl ?_); at_builtin; refine Kd.R_append k50 (w0 := w) w.heap.size rfl (.tmp 72) (.tmp 74) 22 50 (.agg #[(.string ⟨#[]⟩), (.slice none 0 0), (.slice none 0 0), (.int .i64 0), (.slice none 0 0)]) 96 rfl Tryz.underlying22 info50 rfl (by decide) (by omega) u5 x5_1 (⟨(((rd_T50 l0 x6_1).f0).extract 0 ((ji8) : Int).toNat), t137, t140, ((rd_T50 l0 x6_1).f3), x144004_3⟩ : S50) [.string (((rd_T50 l0 x6_1).f0).extract 0 ((ji8) : Int).toNat), .slice Ao24 t137.length co24, .slice Ao23 t140.length co23, .int .i64 ((rd_T50 l0 x6_1).f3), .slice Ao56 x144004_3.length co56] (fun k_ => k_ ≠ gb136 ∧ k_ ≠ gb143) (fun k_ => ((fun k_ => k_ ≠ gb136 ∧ k_ ≠ gb143)) k_ ∧ some k_ ≠ (u5 : Value).ownBlock) rfl rfl ?aP (fun _ hk => hk) ?aF ?aO ?aB ?aS ?aL ?_; (case aP => exact k50_mkM _ _ _ (⟨(((rd_T50 l0 x6_1).f0).extract 0 ((ji8) : Int).toNat), t137, t140, ((rd_T50 l0 x6_1).f3), x144004_3⟩ : S50) (Kd.R_mono (Kd.R_types (Kd.R_types (Kd.R_apart' ((Kd.S_R HO_144001.out)) (Kd.R_typed HO_5.out) (by decide)) BK136.out (by decide)) BK143.out (by decide)) (fun k_ hk => ⟨⟨hk.1.2, hk.2⟩, hk.1.1.2⟩)) (Kd.R_mono (Kd.R_types (Kd.R_types (Kd.R_apart' ((Kd.S_R HO_144002.out)) (Kd.R_typed HO_5.out) (by decide)) BK136.out (by decide)) BK143.out (by decide)) (fun k_ hk => ⟨⟨hk.1.2, hk.2⟩, hk.1.1.2⟩)) (Kd.R_mono (Kd.R_types (Kd.R_types (Kd.R_apart' ((Kd.S_R HO_144004.out)) (Kd.R_typed HO_5.out) (by decide)) BK136.out (by decide)) BK143.out (by decide)) (fun k_ hk => ⟨⟨hk.1.2, hk.2⟩, hk.1.1.2⟩))); (case aB => exact (bl HB)); (case aF => exact (fun k_ hk => ⟨Kd.freshB (bj BK136) k_ hk, Kd.freshB (bj BK143) k_ hk⟩)); (case aO => exact (by exact rA (Kd.R_mono HO_5.out (fun _ hk => ⟨hk.2.2.2.1, hk.2.2.2.2⟩)))); (case aS => exact (below_size (bl HB))); (case aL => have := LMc51.out; omega); intro v159 wq1 ho hb hg hat; rw [← Ny158.out] at ho; replace BK136 := aS (blk_grown (bj BK136) hg (Kd.R_away HO_5.out (fun _ hk => hk.2.2.2.1))); replace BK143 := aS (blk_grown (bj BK143) hg (Kd.R_away HO_5.out (fun _ hk => hk.2.2.2.2))); replace HB := aS (hb); have HO160 := aS (ho); clear HO_5 HO_144001 HO_144002 HO_144004; clear ho hb hg hat) | ((with_reducible refine gate_builtin (b := .append) (xs := #[.tmp 72, .tmp 74]) rfl ?_); at_builtin; refine Kd.R_append k50 (w0 := w) w.heap.size rfl (.tmp 72) (.tmp 74) 22 50 (.agg #[(.string ⟨#[]⟩), (.slice none 0 0), (.slice none 0 0), (.int .i64 0), (.slice none 0 0)]) 96 rfl Tryz.underlying22 info50 rfl (by decide) (by omega) u5 x5_1 (⟨(((rd_T50 l0 x6_1).f0).extract 0 ((ji8) : Int).toNat), t137, t140, ((rd_T50 l0 x6_1).f3), x144004_3⟩ : S50) [.string (((rd_T50 l0 x6_1).f0).extract 0 ((ji8) : Int).toNat), .slice Ao24 t137.length co24, .slice Ao23 t140.length co23, .int .i64 ((rd_T50 l0 x6_1).f3), .slice Ao62 x144004_3.length co62] (fun k_ => k_ ≠ gb136 ∧ k_ ≠ gb143) (fun k_ => ((fun k_ => k_ ≠ gb136 ∧ k_ ≠ gb143)) k_ ∧ some k_ ≠ (u5 : Value).ownBlock) rfl rfl ?aP (fun _ hk => hk) ?aF ?aO ?aB ?aS ?aL ?_; (case aP => exact k50_mkM _ _ _ (⟨(((rd_T50 l0 x6_1).f0).extract 0 ((ji8) : Int).toNat), t137, t140, ((rd_T50 l0 x6_1).f3), x144004_3⟩ : S50) (Kd.R_mono (Kd.R_types (Kd.R_types (Kd.R_apart' ((Kd.S_R HO_144001.out)) (Kd.R_typed HO_5.out) (by decide)) BK136.out (by decide)) BK143.out (by decide)) (fun k_ hk => ⟨⟨hk.1.2, hk.2⟩, hk.1.1.2⟩)) (Kd.R_mono (Kd.R_types (Kd.R_types (Kd.R_apart' ((Kd.S_R HO_144002.out)) (Kd.R_typed HO_5.out) (by decide)) BK136.out (by decide)) BK143.out (by decide)) (fun k_ hk => ⟨⟨hk.1.2, hk.2⟩, hk.1.1.2⟩)) (Kd.R_mono (Kd.R_types (Kd.R_types (Kd.R_apart' ((Kd.S_R HO_144004.out)) (Kd.R_typed HO_5.out) (by decide)) BK136.out (by decide)) BK143.out (by decide)) (fun k_ hk => ⟨⟨hk.1.2, hk.2⟩, hk.1.1.2⟩))); (case aB => exact (bl HB)); (case aF => exact (fun k_ hk => ⟨Kd.freshB (bj BK136) k_ hk, Kd.freshB (bj BK143) k_ hk⟩)); (case aO => exact (by exact rA (Kd.R_mono HO_5.out (fun _ hk => ⟨hk.2.2.2.1, hk.2.2.2.2⟩)))); (case aS => exact (below_size (bl HB))); (case aL => have := LMc57.out; omega); intro v162 wq1 ho hb hg hat; rw [← Ny161.out] at ho; replace BK136 := aS (blk_grown (bj BK136) hg (Kd.R_away HO_5.out (fun _ hk => hk.2.2.2.1))); replace BK143 := aS (blk_grown (bj BK143) hg (Kd.R_away HO_5.out (fun _ hk => hk.2.2.2.2))); replace HB := aS (hb); have HO163 := aS (ho); clear HO_5 HO_144001 HO_144002 HO_144004; clear ho hb hg hat)))
       ·go_roundg k3
        case measure => have := HK1.out; have := HJ2.out; have := HK3.out; omega
        case rel => exact ⟨(wrap64 (x1_3 - 1)), (wrap64 (x9_3 + 1)), (y155), (.slice Aoq3 y155.length coq3), rs, rs, H', ⟨by have := HK1.out; have := HJ2.out; have := HK3.out; omega⟩, ⟨by exact rA (Kd.R_mono (Kd.R_far (p := ⟨gb143, 4, none⟩) (Kd.R_mono HO_5.out (fun k_ hk => (⟨hk, hk.1.2.2.2.2.2.1⟩ : _ ∧ k_ ≠ gb143))) (fun _ hk => hk.2) (.slice Aoq3 y155.length coq3)) (fun _ hk => ⟨hk.1.1.1, ⟨hk.1.1.2.1, ⟨hk.1.2, ⟨hk.1.1.2.2.2.2.1, hk.1.1.2.2.2.2.2.1⟩⟩⟩⟩))⟩, ⟨by exact sA (Kd.S_mono (Kd.S_far (p := ⟨gb143, 4, none⟩) (Kd.S_types HO_144001.out BK143.out (by decide)) (fun _ hk => hk.2) (.slice Aoq3 y155.length coq3)) (fun _ hk => hk.1))⟩, ⟨by exact sA (Kd.S_mono (Kd.S_far (p := ⟨gb143, 4, none⟩) (Kd.S_types HO_144002.out BK143.out (by decide)) (fun _ hk => hk.2) (.slice Aoq3 y155.length coq3)) (fun _ hk => hk.1))⟩, ⟨by exact sA (Kd.S_mono (Kd.S_far (p := ⟨gb143, 4, none⟩) (Kd.S_types HO157.out BK143.out (by decide)) (fun _ hk => hk.2) (.slice Aoq3 y155.length coq3)) (fun _ hk => trivial))⟩, ⟨bp BK136⟩, ⟨bp BK143⟩, ⟨bl HB⟩⟩
       ·go_roundg k3
        case measure => have := HK1.out; have := HJ2.out; have := HK3.out; omega
        case rel => exact ⟨(x1_3), (y158), (wrap64 (x6_1 + 1)), rs, rs, H', ⟨by have := HK1.out; have := HJ2.out; have := HK3.out; omega⟩, ⟨by exact rA (Kd.R_mono HO160.out (fun _ hk => trivial))⟩, ⟨bl HB⟩⟩
       ·go_roundg k3
        case measure => have := HK1.out; have := HJ2.out; have := HK3.out; omega
        case rel => exact ⟨(x1_3), (y161), (wrap64 (x6_1 + 1)), rs, rs, H', ⟨by have := HK1.out; have := HJ2.out; have := HK3.out; omega⟩, ⟨by exact rA (Kd.R_mono HO163.out (fun _ hk => trivial))⟩, ⟨bl HB⟩⟩
end Go.Proofs.YtbkknoipgmlcmaaGreatDoor.P

