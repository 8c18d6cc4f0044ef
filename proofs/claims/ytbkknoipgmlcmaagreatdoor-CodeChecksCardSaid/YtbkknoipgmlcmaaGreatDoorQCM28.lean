import Derived.Test.YtbkknoipgmlcmaaGreatDoorQCM11
import Derived.Test.YtbkknoipgmlcmaaGreatDoorQCM27
set_option linter.unusedVariables false
set_option linter.unusedSimpArgs false
set_option maxHeartbeats 8000000
set_option maxRecDepth 100000
namespace Go.Proofs.YtbkknoipgmlcmaaGreatDoor.P
open Go.RowKit Go.Proofs.YtbkknoipgmlcmaaGreatDoorW.PrintWords Go.Proofs.YtbkknoipgmlcmaaGreatDoorW.PrintLast Go.Proofs.YtbkknoipgmlcmaaGreatDoorW.PrintMore
open Go.Proofs.FX
attribute [local go_sem] cell_twice le_add_cast
attribute [local go_sem] max2_int min2_int max_two min_two max_three min_three max_four min_four
def code_instruction.j0 : Nat → List (S50) → Int → Int → Bool → Int → Int → Int → Int → Int → Bool → List Int → List Int → ByteArray → Int → Int → Int → Bool → Int → Int → Option (Int)
 | 0, _, _, _, _, _, _, _, _, _, _, _, _, _, _, _, _, _, _, _ => none
 | k + 1, x0, x1, x2, x24, x210000, x210001, x210002, x210003, x210004, x210005, x210006, x210007, x219000, x219001, x219002, x219003, x219004, x219005, x219006 => if x24 = true then (some 5) else ((code_there.f x0 x1 x210000 x210001 x210002 x210003 x210004 x210005 x210006 x210007 x219000 x219001 x219002 x219003 x219004 x219005 x219006).bind fun t220 => (if t220 = true then (if 0 ≤ x1 then (if x1 < (x0.length : Int) then (if x2 = (wrap64 ((((rd_T50 x0 x1).f4).length : Int) - 1)) then (if x210000 = 20 then (some 0) else (if x210000 = 26 then (some 0) else (some 10))) else (some 0)) else (none)) else (none)) else (some 2)))
def code_instruction.f (k : Nat) (l0 : List (S50)) (a1 : Int) (a2 : Int) : Option (Int) := if 0 ≤ a1 then (if a1 < (l0.length : Int) then (if 0 ≤ a2 then (if a2 < (((rd_T50 l0 a1).f4).length : Int) then ((code_of.f ((rd_T63 ((rd_T50 l0 a1).f4) a2).f0)).bind fun bt210 => (if bt210.2.2.2.2.2.2.2 = true then ((code_formed.f ((rd_T63 ((rd_T50 l0 a1).f4) a2).f0) ((rd_T63 ((rd_T50 l0 a1).f4) a2).f1) ((rd_T63 ((rd_T50 l0 a1).f4) a2).f2) ((rd_T63 ((rd_T50 l0 a1).f4) a2).f3) ((rd_T63 ((rd_T50 l0 a1).f4) a2).f4.f0) ((rd_T63 ((rd_T50 l0 a1).f4) a2).f4.f1) ((rd_T63 ((rd_T50 l0 a1).f4) a2).f4.f2) ((rd_T63 ((rd_T50 l0 a1).f4) a2).f4.f3) bt210.1 bt210.2.1 bt210.2.2.1 bt210.2.2.2.1 bt210.2.2.2.2.1 bt210.2.2.2.2.2.1 bt210.2.2.2.2.2.2.1).bind fun t219 => (code_instruction.j0 k l0 a1 a2 (!t219) ((rd_T63 ((rd_T50 l0 a1).f4) a2).f0) ((rd_T63 ((rd_T50 l0 a1).f4) a2).f1) ((rd_T63 ((rd_T50 l0 a1).f4) a2).f2) ((rd_T63 ((rd_T50 l0 a1).f4) a2).f3) ((rd_T63 ((rd_T50 l0 a1).f4) a2).f4.f0) ((rd_T63 ((rd_T50 l0 a1).f4) a2).f4.f1) ((rd_T63 ((rd_T50 l0 a1).f4) a2).f4.f2) ((rd_T63 ((rd_T50 l0 a1).f4) a2).f4.f3) bt210.1 bt210.2.1 bt210.2.2.1 bt210.2.2.2.1 bt210.2.2.2.2.1 bt210.2.2.2.2.2.1 bt210.2.2.2.2.2.2.1)) else (code_instruction.j0 k l0 a1 a2 true ((rd_T63 ((rd_T50 l0 a1).f4) a2).f0) ((rd_T63 ((rd_T50 l0 a1).f4) a2).f1) ((rd_T63 ((rd_T50 l0 a1).f4) a2).f2) ((rd_T63 ((rd_T50 l0 a1).f4) a2).f3) ((rd_T63 ((rd_T50 l0 a1).f4) a2).f4.f0) ((rd_T63 ((rd_T50 l0 a1).f4) a2).f4.f1) ((rd_T63 ((rd_T50 l0 a1).f4) a2).f4.f2) ((rd_T63 ((rd_T50 l0 a1).f4) a2).f4.f3) bt210.1 bt210.2.1 bt210.2.2.1 bt210.2.2.2.1 bt210.2.2.2.2.1 bt210.2.2.2.2.2.1 bt210.2.2.2.2.2.2.1))) else (none)) else (none)) else (none)) else (none)
theorem code_instruction.mono_l : ∀ k, (∀ y0 y1 y2 y3 y4 y5 y6 y7 y8 y9 y10 y11 y12 y13 y14 y15 y16 y17 y18, LeO (code_instruction.j0 k y0 y1 y2 y3 y4 y5 y6 y7 y8 y9 y10 y11 y12 y13 y14 y15 y16 y17 y18) (code_instruction.j0 (k + 1) y0 y1 y2 y3 y4 y5 y6 y7 y8 y9 y10 y11 y12 y13 y14 y15 y16 y17 y18))
 | 0 => fun _ _ _ _ _ _ _ _ _ _ _ _ _ _ _ _ _ _ _ r h => by simp [code_instruction.j0] at h
 | k + 1 => by
  have ih0 := code_instruction.mono_l k
  ·intro y0 y1 y2 y3 y4 y5 y6 y7 y8 y9 y10 y11 y12 y13 y14 y15 y16 y17 y18
   unfold code_instruction.j0
   repeat' first
   | (with_reducible exact ih0 _ _ _ _ _ _ _ _ _ _ _ _ _ _ _ _ _ _ _)
   | (with_reducible exact LeO.refl _)
   | (with_reducible exact LeO.none _)
   | (with_reducible refine LeO.ite ?_ ?_)
   | (with_reducible refine LeO.bind ?_ (fun _ => ?_))
   | exact ih0 _ _ _ _ _ _ _ _ _ _ _ _ _ _ _ _ _ _ _
   | exact LeO.none _
   | refine LeO.ite ?_ ?_
   | refine LeO.bind ?_ (fun _ => ?_)
theorem code_instruction.mono : ∀ a0 a1 a2 k, LeO (code_instruction.f k a0 a1 a2) (code_instruction.f (k + 1) a0 a1 a2) := by
 intro a0 a1 a2 k
 have ih0 := code_instruction.mono_l k
 unfold code_instruction.f
 repeat' first
  | (with_reducible exact ih0 _ _ _ _ _ _ _ _ _ _ _ _ _ _ _ _ _ _ _)
  | (with_reducible exact LeO.refl _)
  | (with_reducible exact LeO.none _)
  | (with_reducible refine LeO.ite ?_ ?_)
  | (with_reducible refine LeO.bind ?_ (fun _ => ?_))
  | exact ih0 _ _ _ _ _ _ _ _ _ _ _ _ _ _ _ _ _ _ _
  | exact LeO.none _
  | refine LeO.ite ?_ ?_
  | refine LeO.bind ?_ (fun _ => ?_)
theorem code_instruction.calls (k : Nat) (A0 : Option Addr) (c0 : Nat) (l0 : List (S50)) (a1 : Int) (a2 : Int) (r : Int) (w : World) (hG : GW w) (hr0 : Kd.C k50 w A0 l0.length l0) (hc0 : l0.length ≤ c0) (h : code_instruction.f k l0 a1 a2 = some r) :
 Calls Tryz.prog 32 #[.slice A0 l0.length c0, .int .i64 a1, .int .i64 a2] w fun e w' => e = .returned (.int .i64 r) ∧ Below w.heap.size w w' := by
 have hu63 := Tryz.underlying63
 have hu72 := Tryz.underlying72
 have HR0 := aS hr0
 have HC0 := aS hc0
 clear hr0 hc0
 have HG := aS hG
 clear hG
 have HB := aS (Below.refl w.heap.size w)
 have H := h
 unfold code_instruction.f at H
 clear h
 by_cases c4 : 0 ≤ a1; rotate_left
 ·rw [if_neg c4] at H
  cases H
 rw [if_pos c4] at H
 have c4b0 := dT c4
 clear c4
 by_cases c5 : a1 < (l0.length : Int); rotate_left
 ·rw [if_neg c5] at H
  cases H
 rw [if_pos c5] at H
 have c5b0 := dT c5
 clear c5
 by_cases c6 : 0 ≤ a2; rotate_left
 ·rw [if_neg c6] at H
  cases H
 rw [if_pos c6] at H
 have c6b0 := dT c6
 clear c6
 by_cases c7 : a2 < (((rd_T50 l0 a1).f4).length : Int); rotate_left
 ·rw [if_neg c7] at H
  cases H
 rw [if_pos c7] at H
 have c7b0 := dT c7
 clear c7
 replace H := bS H
 obtain ⟨⟨t210, t211, t212, t213, t214, t215, t216, t217⟩, A80, H⟩ := H
 (try dsimp only at H)
 have A8 := aS A80
 clear A80
 have HC9 := aS H
 clear H
 have p207 : 0 ≤ (a1 : Int) := oa
 have q207 : a1 < (l0.length : Int) := oa
 obtain ⟨ad207, A207_1, c207_1, A207_2, c207_2, A207_4, c207_4, e207, hx207_0, hx207_1, hx207_2, hx207_3, hx207_4, hl207_1, hi207_1, hl207_2, hi207_2, hl207_4, hi207_4⟩ := at_T50 HR0.out a1 p207 q207
 cases e207
 have HR207_1 := aS hi207_1
 have HC207_1 := aS hl207_1
 clear hi207_1 hl207_1
 have HR207_2 := aS hi207_2
 have HC207_2 := aS hl207_2
 clear hi207_2 hl207_2
 have HR207_4 := aS hi207_4
 have HC207_4 := aS hl207_4
 clear hi207_4 hl207_4
 replace p207 := eq_true p207
 replace q207 := eq_true q207
 have p208 : 0 ≤ (a2 : Int) := oa
 have q208 : a2 < (((rd_T50 l0 a1).f4).length : Int) := oa
 obtain ⟨ad208, A208_6, c208_6, A208_7, c208_7, e208, hx208_0, hx208_1, hx208_2, hx208_3, hx208_4, hx208_5, hx208_6, hx208_7, hl208_6, hi208_6, hl208_7, hi208_7⟩ := at_T63 HR207_4.out a2 p208 q208
 cases e208
 have HR208_6 := aS hi208_6
 have HC208_6 := aS hl208_6
 clear hi208_6 hl208_6
 have HR208_7 := aS hi208_7
 have HC208_7 := aS hl208_7
 clear hi208_7 hl208_7
 replace p208 := eq_true p208
 replace q208 := eq_true q208
 go_enter Tryz.func32, Tryz.ntmps32
 go_upto_region 3 with (first | ((with_reducible refine gate_dst (N := 7) rfl ?_); refine bx (N := 7) (cs := #[.int .i64 0, .int .i64 0, .int .i64 0, .int .i64 0, .int .i64 0, .bool false, .slice none 0 0, .slice none 0 0]) (t := 63) ?_; intro gb209 hg w10 hbox hb; have BK209 := aS (hbox); have GW209 := (gz hg HB : Aside0 (w.heap.size ≤ gb209)); have GE209 := (gz hg HB : Aside0 (w.heap.size ≤ gb209)); replace HB := aS (bs_ (bl HB) hb); clear hb hbox hg; obtain ⟨hcz11_0, hcz11_1, hcz11_2, hcz11_3, hcz11_4, hcz11_5, hcz11_6, hcz11_7, hfz11_0, hfz11_1, hfz11_2, hfz11_3, hfz11_4, hfz11_5, hfz11_6, hfz11_7⟩ := cf8 BK209.out) | ((with_reducible refine gate_callee (f := 41) rfl ?_); refine gl 21 Tryz.func41 #[.int .i64 ((rd_T63 ((rd_T50 l0 a1).f4) a2).f0)] ?_; (with_reducible refine (code_of.calls ((rd_T63 ((rd_T50 l0 a1).f4) a2).f0) t210 t211 t212 t213 t214 t215 t216 t217 _ ?side1 A8.out).mono ?_); (case side1 => exact GW.below HG.out (bl HB)); rintro e w12 ⟨rfl, hb⟩; refine ⟨_, rfl, ?_⟩; replace BK209 := aS (blk_below (g := gb209) (o := .cells #[.int .i64 ((rd_T63 ((rd_T50 l0 a1).f4) a2).f0), .int .i64 ((rd_T63 ((rd_T50 l0 a1).f4) a2).f1), .int .i64 ((rd_T63 ((rd_T50 l0 a1).f4) a2).f2), .int .i64 ((rd_T63 ((rd_T50 l0 a1).f4) a2).f3), .int .i64 ((rd_T63 ((rd_T50 l0 a1).f4) a2).f4.f0), .bool ((rd_T63 ((rd_T50 l0 a1).f4) a2).f4.f1), .slice A208_6 ((rd_T63 ((rd_T50 l0 a1).f4) a2).f4.f2).length c208_6, .slice A208_7 ((rd_T63 ((rd_T50 l0 a1).f4) a2).f4.f3).length c208_7] 63 (0, 0)) (bp BK209) hb); replace HB := aS (bs_ (bl HB) hb); clear hb) | ((with_reducible refine gate_dst (N := 8) rfl ?_); refine bx (N := 8) (cs := #[.string (⟨#[]⟩ : ByteArray), .int .i64 0, .int .i64 0, .int .i64 0, .bool false, .int .i64 0, .int .i64 0]) (t := 72) ?_; intro gb218 hg w13 hbox hb; have n0_ := aS (blk_below (bj BK209) hb); have n1_ := aS (bs_ (bl HB) hb); have n2_ := aS (hbox); have n3_ := (gz hg HB : Aside0 (w.heap.size ≤ gb218)); have n4_ := (gz hg HB : Aside0 (w.heap.size ≤ gb218)); have n5_ := aS ((by rw [hg]; exact Nat.ne_of_lt (blk_lt (bj BK209)) : gb209 ≠ gb218)); have n6_ := aS ((by rw [hg]; exact Nat.ne_of_gt (blk_lt (bj BK209)) : gb218 ≠ gb209)); clear BK209; clear HB; have BK209 := n0_; have HB := n1_; have BK218 := n2_; have GW218 := n3_; have GE218 := n4_; have NB209_218 := n5_; have NB218_209 := n6_; clear n0_ n1_ n2_ n3_ n4_ n5_ n6_; clear hb hbox hg; have hnb14 := NB218_209.out; have hnc14 := NB209_218.out; obtain ⟨hcz15_0, hcz15_1, hcz15_2, hcz15_3, hcz15_4, hcz15_5, hcz15_6, hfz15_0, hfz15_1, hfz15_2, hfz15_3, hfz15_4, hfz15_5, hfz15_6⟩ := cf7 BK218.out))
 (try simp only [Act.put, List.setIfInBounds_toArray, List.set_cons_zero, List.set_cons_succ])
 go_cut [24] (fun v24 wc => ∃ (kq : Nat) (x24_8 : Bool), v24 = .bool x24_8 ∧ Aside0 (code_instruction.j0 kq l0 a1 a2 x24_8 ((rd_T63 ((rd_T50 l0 a1).f4) a2).f0) ((rd_T63 ((rd_T50 l0 a1).f4) a2).f1) ((rd_T63 ((rd_T50 l0 a1).f4) a2).f2) ((rd_T63 ((rd_T50 l0 a1).f4) a2).f3) ((rd_T63 ((rd_T50 l0 a1).f4) a2).f4.f0) ((rd_T63 ((rd_T50 l0 a1).f4) a2).f4.f1) ((rd_T63 ((rd_T50 l0 a1).f4) a2).f4.f2) ((rd_T63 ((rd_T50 l0 a1).f4) a2).f4.f3) t210 t211 t212 t213 t214 t215 t216 = some r) ∧ Aside0 (kq ≤ k) ∧ Aside0 (wc.heap[gb209]? = some (.cells #[.int .i64 ((rd_T63 ((rd_T50 l0 a1).f4) a2).f0), .int .i64 ((rd_T63 ((rd_T50 l0 a1).f4) a2).f1), .int .i64 ((rd_T63 ((rd_T50 l0 a1).f4) a2).f2), .int .i64 ((rd_T63 ((rd_T50 l0 a1).f4) a2).f3), .int .i64 ((rd_T63 ((rd_T50 l0 a1).f4) a2).f4.f0), .bool ((rd_T63 ((rd_T50 l0 a1).f4) a2).f4.f1), (.slice A208_6 ((rd_T63 ((rd_T50 l0 a1).f4) a2).f4.f2).length c208_6), (.slice A208_7 ((rd_T63 ((rd_T50 l0 a1).f4) a2).f4.f3).length c208_7)] 63 (0, 0))) ∧ Aside0 (wc.heap[gb218]? = some (.cells #[.string t210, .int .i64 t211, .int .i64 t212, .int .i64 t213, .bool t214, .int .i64 t215, .int .i64 t216] 72 (0, 0))) ∧ Aside0 (Below w.heap.size w wc))
 case first =>
  have H := HC9.out
  clear HC9
  by_cases c16 : t217 = true
  ·subst c16
   rw [if_pos rfl] at H
   replace H := bS H
   obtain ⟨t219, A170, H⟩ := H
   (try dsimp only at H)
   have A17 := aS A170
   clear A170
   have H' := aS H
   clear H
   have hnb18 := NB209_218.out
   have hnc18 := NB218_209.out
   obtain ⟨hcz19_0, hcz19_1, hcz19_2, hcz19_3, hcz19_4, hcz19_5, hcz19_6, hcz19_7, hfz19_0, hfz19_1, hfz19_2, hfz19_3, hfz19_4, hfz19_5, hfz19_6, hfz19_7⟩ := cf8 BK209.out
   obtain ⟨hcz20_0, hcz20_1, hcz20_2, hcz20_3, hcz20_4, hcz20_5, hcz20_6, hfz20_0, hfz20_1, hfz20_2, hfz20_3, hfz20_4, hfz20_5, hfz20_6⟩ := cf7 BK218.out
   go_wp2_with (first | (go_at_call 93; (with_reducible refine (code_formed.calls ((rd_T63 ((rd_T50 l0 a1).f4) a2).f0) ((rd_T63 ((rd_T50 l0 a1).f4) a2).f1) ((rd_T63 ((rd_T50 l0 a1).f4) a2).f2) ((rd_T63 ((rd_T50 l0 a1).f4) a2).f3) ((rd_T63 ((rd_T50 l0 a1).f4) a2).f4.f0) ((rd_T63 ((rd_T50 l0 a1).f4) a2).f4.f1) _ _ ((rd_T63 ((rd_T50 l0 a1).f4) a2).f4.f2) _ _ ((rd_T63 ((rd_T50 l0 a1).f4) a2).f4.f3) t210 t211 t212 t213 t214 t215 t216 t219 _ ?side1 ?side2 ?side3 ?side4 ?side5 A17.out).mono ?_); (case side1 => exact GW.below HG.out (bl HB)); (case side2 => exact Kd.C_below HR208_6.out (bl HB)); (case side3 => exact HC208_6.out); (case side4 => exact Kd.C_below HR208_7.out (bl HB)); (case side5 => exact HC208_7.out); rintro e w21 ⟨rfl, hb⟩; replace BK209 := aS (blk_below (bj BK209) hb); replace BK218 := aS (blk_below (g := gb218) (o := .cells #[.string t210, .int .i64 t211, .int .i64 t212, .int .i64 t213, .bool t214, .int .i64 t215, .int .i64 t216] 72 (0, 0)) (bp BK218) hb); replace HB := aS (bs_ (bl HB) hb); clear hb))
   go_meet
   case rel => exact ⟨_, (!t219), rs, H', ⟨by first | omega | exact Nat.le_refl _⟩, ⟨bk BK209⟩, ⟨bk BK218⟩, ⟨bl HB⟩⟩
  ·replace c16 := Bool.eq_false_iff.mpr c16
   subst c16
   rw [if_neg iN] at H
   have H' := aS H
   clear H
   go_wp2
   go_meet
   case rel => exact ⟨_, (true), rs, H', ⟨by first | omega | exact Nat.le_refl _⟩, ⟨bp BK209⟩, ⟨bp BK218⟩, ⟨bl HB⟩⟩
 case rest =>
  clear HC9
  (try clear c1); (try clear c2); (try clear p2); (try clear q2); (try clear hx2); (try clear c3); (try clear c4); (try clear c4b0); (try clear c5); (try clear c5b0); (try clear c6); (try clear c6b0); (try clear c7); (try clear c7b0); (try clear c14); (try clear c16); (try clear c18); (try clear c20); (try clear p20); (try clear q20); (try clear hx20); (try clear hcz11_0); (try clear hcz11_1); (try clear hcz11_2); (try clear hcz11_3); (try clear hcz11_4); (try clear hcz11_5); (try clear hcz11_6); (try clear hcz11_7); (try clear hcz15_0); (try clear hcz15_1); (try clear hcz15_2); (try clear hcz15_3); (try clear hcz15_4); (try clear hcz15_5); (try clear hcz15_6); (try clear hcz19_0); (try clear hcz19_1); (try clear hcz19_2); (try clear hcz19_3); (try clear hcz19_4); (try clear hcz19_5); (try clear hcz19_6); (try clear hcz19_7); (try clear hcz20_0); (try clear hcz20_1); (try clear hcz20_2); (try clear hcz20_3); (try clear hcz20_4); (try clear hcz20_5); (try clear hcz20_6); (try clear hfz11_0); (try clear hfz11_1); (try clear hfz11_2); (try clear hfz11_3); (try clear hfz11_4); (try clear hfz11_5); (try clear hfz11_6); (try clear hfz11_7); (try clear hfz15_0); (try clear hfz15_1); (try clear hfz15_2); (try clear hfz15_3); (try clear hfz15_4); (try clear hfz15_5); (try clear hfz15_6); (try clear hfz19_0); (try clear hfz19_1); (try clear hfz19_2); (try clear hfz19_3); (try clear hfz19_4); (try clear hfz19_5); (try clear hfz19_6); (try clear hfz19_7); (try clear hfz20_0); (try clear hfz20_1); (try clear hfz20_2); (try clear hfz20_3); (try clear hfz20_4); (try clear hfz20_5); (try clear hfz20_6); (try clear hx207_0); (try clear hx207_1); (try clear hx207_2); (try clear hx207_3); (try clear hx207_4); (try clear hx208_0); (try clear hx208_1); (try clear hx208_2); (try clear hx208_3); (try clear hx208_4); (try clear hx208_5); (try clear hx208_6); (try clear hx208_7); (try clear p207); (try clear p208); (try clear q207); (try clear q208)
  obtain ⟨kq, x24_8, rfl, HA, HJ8, BK209, BK218, HB⟩ := hcut
  cases kq with
  | zero => exact absurd HA.out (by simp [code_instruction.j0])
  | succ kj8 =>
   have H := HA.out
   clear HA
   simp only [code_instruction.j0] at H
   by_cases c22 : x24_8 = true
   focus
    subst c22
    rw [if_pos rfl] at H
    obtain rfl := sI H
    go_wp2
    go_ret
    exact ⟨re, bl HB⟩
   focus
    replace c22 := Bool.eq_false_iff.mpr c22
    subst c22
    rw [if_neg iN] at H
    replace H := bS H
    obtain ⟨t220, A230, H⟩ := H
    (try dsimp only at H)
    have A23 := aS A230
    clear A230
    by_cases c24 : t220 = true
    focus
     subst c24
     rw [if_pos rfl] at H
     by_cases c25 : 0 ≤ a1
     focus
      rw [if_pos c25] at H
      have c25b0 := dT c25
      clear c25
      by_cases c26 : a1 < (l0.length : Int)
      focus
       rw [if_pos c26] at H
       have c26b0 := dT c26
       clear c26
       by_cases c27 : a2 = (wrap64 ((((rd_T50 l0 a1).f4).length : Int) - 1))
       focus
        rw [if_pos c27] at H
        have c27b0 := bT c27
        have c27b1 := nF c27
        clear c27
        by_cases c28 : ((rd_T63 ((rd_T50 l0 a1).f4) a2).f0) = 20
        focus
         rw [if_pos c28] at H
         have c28b0 := bT c28
         have c28b1 := nF c28
         clear c28
         obtain rfl := sI H
         have hnb29 := NB209_218.out
         have hnc29 := NB218_209.out
         obtain ⟨_, _, _, _, _, _, _, _, _, _, _, _, _, _, _, _⟩ := cf8 BK209.out
         obtain ⟨_, _, _, _, _, _, _, _, _, _, _, _, _, _⟩ := cf7 BK218.out
        rotate_left 1
        focus
         rw [if_neg c28] at H
         have c28b0 := bF c28
         have c28b1 := nT c28
         by_cases c34 : ((rd_T63 ((rd_T50 l0 a1).f4) a2).f0) = 26
         focus
          rw [if_pos c34] at H
          have c34b0 := bT c34
          have c34b1 := nF c34
          clear c34
          obtain rfl := sI H
          have hnb35 := NB209_218.out
          have hnc35 := NB218_209.out
          obtain ⟨_, _, _, _, _, _, _, _, _, _, _, _, _, _, _, _⟩ := cf8 BK209.out
          obtain ⟨_, _, _, _, _, _, _, _, _, _, _, _, _, _⟩ := cf7 BK218.out
         rotate_left 1
         focus
          rw [if_neg c34] at H
          have c34b0 := bF c34
          have c34b1 := nT c34
          obtain rfl := sI H
          have hnb40 := NB209_218.out
          have hnc40 := NB218_209.out
          obtain ⟨_, _, _, _, _, _, _, _, _, _, _, _, _, _, _, _⟩ := cf8 BK209.out
          obtain ⟨_, _, _, _, _, _, _, _, _, _, _, _, _, _⟩ := cf7 BK218.out
         rotate_left 1
        rotate_left 2
       rotate_left 3
       focus
        rw [if_neg c27] at H
        have c27b0 := bF c27
        have c27b1 := nT c27
        obtain rfl := sI H
        have hnb45 := NB209_218.out
        have hnc45 := NB218_209.out
        obtain ⟨_, _, _, _, _, _, _, _, _, _, _, _, _, _, _, _⟩ := cf8 BK209.out
        obtain ⟨_, _, _, _, _, _, _, _, _, _, _, _, _, _⟩ := cf7 BK218.out
       rotate_left 1
      rotate_left 4
      focus
       rw [if_neg c26] at H
       cases H
     rotate_left 4
     focus
      rw [if_neg c25] at H
      cases H
    rotate_left 4
    focus
     replace c24 := Bool.eq_false_iff.mpr c24
     subst c24
     rw [if_neg iN] at H
     obtain rfl := sI H
     have hnb49 := NB209_218.out
     have hnc49 := NB218_209.out
     obtain ⟨_, _, _, _, _, _, _, _, _, _, _, _, _, _, _, _⟩ := cf8 BK209.out
     obtain ⟨_, _, _, _, _, _, _, _, _, _, _, _, _, _⟩ := cf7 BK218.out
    rotate_left 1
   all_goals (go_wp2_with (first | ((with_reducible refine gate_callee (f := 94) rfl ?_); refine gl 38 Tryz.func94 #[.slice (some ad207) l0.length c0, .int .i64 a1, .agg #[.int .i64 ((rd_T63 ((rd_T50 l0 a1).f4) a2).f0), .int .i64 ((rd_T63 ((rd_T50 l0 a1).f4) a2).f1), .int .i64 ((rd_T63 ((rd_T50 l0 a1).f4) a2).f2), .int .i64 ((rd_T63 ((rd_T50 l0 a1).f4) a2).f3), .int .i64 ((rd_T63 ((rd_T50 l0 a1).f4) a2).f4.f0), .bool ((rd_T63 ((rd_T50 l0 a1).f4) a2).f4.f1), .slice A208_6 ((rd_T63 ((rd_T50 l0 a1).f4) a2).f4.f2).length c208_6, .slice A208_7 ((rd_T63 ((rd_T50 l0 a1).f4) a2).f4.f3).length c208_7], .agg #[.string t210, .int .i64 t211, .int .i64 t212, .int .i64 t213, .bool t214, .int .i64 t215, .int .i64 t216]] ?_; (with_reducible refine (code_there.calls _ _ l0 a1 ((rd_T63 ((rd_T50 l0 a1).f4) a2).f0) ((rd_T63 ((rd_T50 l0 a1).f4) a2).f1) ((rd_T63 ((rd_T50 l0 a1).f4) a2).f2) ((rd_T63 ((rd_T50 l0 a1).f4) a2).f3) ((rd_T63 ((rd_T50 l0 a1).f4) a2).f4.f0) ((rd_T63 ((rd_T50 l0 a1).f4) a2).f4.f1) _ _ ((rd_T63 ((rd_T50 l0 a1).f4) a2).f4.f2) _ _ ((rd_T63 ((rd_T50 l0 a1).f4) a2).f4.f3) t210 t211 t212 t213 t214 t215 t216 true _ ?side1 ?side2 ?side3 ?side4 ?side5 ?side6 ?side7 A23.out).mono ?_); (case side1 => exact GW.below HG.out (bl HB)); (case side2 => exact cb HR0 HB); (case side3 => exact HC0.out); (case side4 => exact cb HR208_6 HB); (case side5 => exact HC208_6.out); (case side6 => exact cb HR208_7 HB); (case side7 => exact HC208_7.out); rintro e wq1 ⟨rfl, hb⟩; refine ⟨_, rfl, ?_⟩; replace BK209 := aS (blk_below (bj BK209) hb); replace BK218 := aS (blk_below (bj BK218) hb); replace HB := aS (bs_ (bl HB) hb); clear hb; have p221 : 0 ≤ (a1 : Int) := oa; have q221 : a1 < (l0.length : Int) := oa; obtain ⟨ad221, A221_1, c221_1, A221_2, c221_2, A221_4, c221_4, e221, hx221_0, hx221_1, hx221_2, hx221_3, hx221_4, hl221_1, hi221_1, hl221_2, hi221_2, hl221_4, hi221_4⟩ := at_T50 HR0.out a1 p221 q221; obtain rfl : ad207 = ad221 := (by injection e221); replace hx221_0 := xb HB hx221_0; replace hx221_1 := xb HB hx221_1; replace hx221_2 := xb HB hx221_2; replace hx221_3 := xb HB hx221_3; replace hx221_4 := xb HB hx221_4; have HR221_1 := aS hi221_1; have HC221_1 := aS hl221_1; clear hi221_1 hl221_1; have HR221_2 := aS hi221_2; have HC221_2 := aS hl221_2; clear hi221_2 hl221_2; have HR221_4 := aS hi221_4; have HC221_4 := aS hl221_4; clear hi221_4 hl221_4; replace p221 := eq_true p221; replace q221 := eq_true q221; obtain ⟨_, _, _, _, _, _, _, _, _, _, _, _, _, _, _, _⟩ := cf8 BK209.out) | ((with_reducible refine gate_callee (f := 94) rfl ?_); refine gl 38 Tryz.func94 #[.slice (some ad207) l0.length c0, .int .i64 a1, .agg #[.int .i64 ((rd_T63 ((rd_T50 l0 a1).f4) a2).f0), .int .i64 ((rd_T63 ((rd_T50 l0 a1).f4) a2).f1), .int .i64 ((rd_T63 ((rd_T50 l0 a1).f4) a2).f2), .int .i64 ((rd_T63 ((rd_T50 l0 a1).f4) a2).f3), .int .i64 ((rd_T63 ((rd_T50 l0 a1).f4) a2).f4.f0), .bool ((rd_T63 ((rd_T50 l0 a1).f4) a2).f4.f1), .slice A208_6 ((rd_T63 ((rd_T50 l0 a1).f4) a2).f4.f2).length c208_6, .slice A208_7 ((rd_T63 ((rd_T50 l0 a1).f4) a2).f4.f3).length c208_7], .agg #[.string t210, .int .i64 t211, .int .i64 t212, .int .i64 t213, .bool t214, .int .i64 t215, .int .i64 t216]] ?_; (with_reducible refine (code_there.calls _ _ l0 a1 ((rd_T63 ((rd_T50 l0 a1).f4) a2).f0) ((rd_T63 ((rd_T50 l0 a1).f4) a2).f1) ((rd_T63 ((rd_T50 l0 a1).f4) a2).f2) ((rd_T63 ((rd_T50 l0 a1).f4) a2).f3) ((rd_T63 ((rd_T50 l0 a1).f4) a2).f4.f0) ((rd_T63 ((rd_T50 l0 a1).f4) a2).f4.f1) _ _ ((rd_T63 ((rd_T50 l0 a1).f4) a2).f4.f2) _ _ ((rd_T63 ((rd_T50 l0 a1).f4) a2).f4.f3) t210 t211 t212 t213 t214 t215 t216 true _ ?side1 ?side2 ?side3 ?side4 ?side5 ?side6 ?side7 A23.out).mono ?_); (case side1 => exact GW.below HG.out (bl HB)); (case side2 => exact cb HR0 HB); (case side3 => exact HC0.out); (case side4 => exact cb HR208_6 HB); (case side5 => exact HC208_6.out); (case side6 => exact cb HR208_7 HB); (case side7 => exact HC208_7.out); rintro e wq1 ⟨rfl, hb⟩; refine ⟨_, rfl, ?_⟩; replace BK209 := aS (blk_below (bj BK209) hb); replace BK218 := aS (blk_below (bj BK218) hb); replace HB := aS (bs_ (bl HB) hb); clear hb; have p221 : 0 ≤ (a1 : Int) := oa; have q221 : a1 < (l0.length : Int) := oa; obtain ⟨ad221, A221_1, c221_1, A221_2, c221_2, A221_4, c221_4, e221, hx221_0, hx221_1, hx221_2, hx221_3, hx221_4, hl221_1, hi221_1, hl221_2, hi221_2, hl221_4, hi221_4⟩ := at_T50 HR0.out a1 p221 q221; obtain rfl : ad207 = ad221 := (by injection e221); replace hx221_0 := xb HB hx221_0; replace hx221_1 := xb HB hx221_1; replace hx221_2 := xb HB hx221_2; replace hx221_3 := xb HB hx221_3; replace hx221_4 := xb HB hx221_4; have HR221_1 := aS hi221_1; have HC221_1 := aS hl221_1; clear hi221_1 hl221_1; have HR221_2 := aS hi221_2; have HC221_2 := aS hl221_2; clear hi221_2 hl221_2; have HR221_4 := aS hi221_4; have HC221_4 := aS hl221_4; clear hi221_4 hl221_4; replace p221 := eq_true p221; replace q221 := eq_true q221) | ((with_reducible refine gate_callee (f := 94) rfl ?_); refine gl 38 Tryz.func94 #[.slice (some ad207) l0.length c0, .int .i64 a1, .agg #[.int .i64 ((rd_T63 ((rd_T50 l0 a1).f4) a2).f0), .int .i64 ((rd_T63 ((rd_T50 l0 a1).f4) a2).f1), .int .i64 ((rd_T63 ((rd_T50 l0 a1).f4) a2).f2), .int .i64 ((rd_T63 ((rd_T50 l0 a1).f4) a2).f3), .int .i64 ((rd_T63 ((rd_T50 l0 a1).f4) a2).f4.f0), .bool ((rd_T63 ((rd_T50 l0 a1).f4) a2).f4.f1), .slice A208_6 ((rd_T63 ((rd_T50 l0 a1).f4) a2).f4.f2).length c208_6, .slice A208_7 ((rd_T63 ((rd_T50 l0 a1).f4) a2).f4.f3).length c208_7], .agg #[.string t210, .int .i64 t211, .int .i64 t212, .int .i64 t213, .bool t214, .int .i64 t215, .int .i64 t216]] ?_; (with_reducible refine (code_there.calls _ _ l0 a1 ((rd_T63 ((rd_T50 l0 a1).f4) a2).f0) ((rd_T63 ((rd_T50 l0 a1).f4) a2).f1) ((rd_T63 ((rd_T50 l0 a1).f4) a2).f2) ((rd_T63 ((rd_T50 l0 a1).f4) a2).f3) ((rd_T63 ((rd_T50 l0 a1).f4) a2).f4.f0) ((rd_T63 ((rd_T50 l0 a1).f4) a2).f4.f1) _ _ ((rd_T63 ((rd_T50 l0 a1).f4) a2).f4.f2) _ _ ((rd_T63 ((rd_T50 l0 a1).f4) a2).f4.f3) t210 t211 t212 t213 t214 t215 t216 false _ ?side1 ?side2 ?side3 ?side4 ?side5 ?side6 ?side7 A23.out).mono ?_); (case side1 => exact GW.below HG.out (bl HB)); (case side2 => exact cb HR0 HB); (case side3 => exact HC0.out); (case side4 => exact cb HR208_6 HB); (case side5 => exact HC208_6.out); (case side6 => exact cb HR208_7 HB); (case side7 => exact HC208_7.out); rintro e wq1 ⟨rfl, hb⟩; refine ⟨_, rfl, ?_⟩; replace BK209 := aS (blk_below (bj BK209) hb); replace BK218 := aS (blk_below (bj BK218) hb); replace HB := aS (bs_ (bl HB) hb); clear hb)))
   ·go_ret
    exact ⟨re, bl HB⟩
   ·go_ret
    exact ⟨re, bl HB⟩
   ·go_ret
    exact ⟨re, bl HB⟩
   ·go_ret
    exact ⟨re, bl HB⟩
   ·go_ret
    exact ⟨re, bl HB⟩
mutual
def code_Check.j0 : Nat → List (S50) → Bool → Option (Int × Int × Int)
 | 0, _, _ => none
 | k + 1, x0, x16 => if x16 = true then (some (0, 0, 3)) else (code_Check.l0 k x0 (x0.length : Int) 0)
def code_Check.l0 : Nat → List (S50) → Int → Int → Option (Int × Int × Int)
 | 0, _, _, _ => none
 | k + 1, x0, x18, x19 => if x19 < x18 then ((code_head.f x0 x19).bind fun t222 => (if t222 = 0 then (if 0 ≤ x19 then (if x19 < (x0.length : Int) then (code_Check.l1 k x0 x19 x18 x19 (((rd_T50 x0 x19).f4).length : Int) 0) else (none)) else (none)) else (some (x19, 0, t222)))) else (some (0, 0, 0))
def code_Check.l1 : Nat → List (S50) → Int → Int → Int → Int → Int → Option (Int × Int × Int)
 | 0, _, _, _, _, _, _ => none
 | k + 1, x0, x5, x18, x19, x34, x35 => if x35 < x34 then ((code_instruction.f k x0 x5 x35).bind fun t224 => (if t224 = 0 then (code_Check.l1 k x0 x5 x18 x19 x34 (wrap64 (x35 + 1))) else (some (x5, x35, t224)))) else (code_Check.l0 k x0 x18 (wrap64 (x19 + 1)))
end
def code_Check.f (k : Nat) (l0 : List (S50)) : Option (Int × Int × Int) := if (l0.length : Int) < 1 then (code_Check.j0 k l0 true) else (code_Check.j0 k l0 (decide ((l0.length : Int) > 32)))
theorem code_Check.mono_l : ∀ k, (∀ y0 y1, LeO (code_Check.j0 k y0 y1) (code_Check.j0 (k + 1) y0 y1)) ∧ (∀ y0 y1 y2, LeO (code_Check.l0 k y0 y1 y2) (code_Check.l0 (k + 1) y0 y1 y2)) ∧ (∀ y0 y1 y2 y3 y4 y5, LeO (code_Check.l1 k y0 y1 y2 y3 y4 y5) (code_Check.l1 (k + 1) y0 y1 y2 y3 y4 y5))
 | 0 => ⟨fun _ _ r h => by simp [code_Check.j0] at h, fun _ _ _ r h => by simp [code_Check.l0] at h, fun _ _ _ _ _ _ r h => by simp [code_Check.l1] at h⟩
 | k + 1 => by
  obtain ⟨ih0, ih1, ih2⟩ := code_Check.mono_l k
  refine ⟨?_, ?_, ?_⟩
  ·intro y0 y1
   unfold code_Check.j0
   repeat' first
   | (with_reducible exact ih0 _ _)
   | (with_reducible exact ih1 _ _ _)
   | (with_reducible exact ih2 _ _ _ _ _ _)
   | (with_reducible exact code_instruction.mono _ _ _ _)
   | (with_reducible exact LeO.refl _)
   | (with_reducible exact LeO.none _)
   | (with_reducible refine LeO.ite ?_ ?_)
   | (with_reducible refine LeO.bind ?_ (fun _ => ?_))
   | exact ih0 _ _
   | exact ih1 _ _ _
   | exact ih2 _ _ _ _ _ _
   | exact code_instruction.mono _ _ _ _
   | exact LeO.none _
   | refine LeO.ite ?_ ?_
   | refine LeO.bind ?_ (fun _ => ?_)
  ·intro y0 y1 y2
   unfold code_Check.l0
   repeat' first
   | (with_reducible exact ih0 _ _)
   | (with_reducible exact ih1 _ _ _)
   | (with_reducible exact ih2 _ _ _ _ _ _)
   | (with_reducible exact code_instruction.mono _ _ _ _)
   | (with_reducible exact LeO.refl _)
   | (with_reducible exact LeO.none _)
   | (with_reducible refine LeO.ite ?_ ?_)
   | (with_reducible refine LeO.bind ?_ (fun _ => ?_))
   | exact ih0 _ _
   | exact ih1 _ _ _
   | exact ih2 _ _ _ _ _ _
   | exact code_instruction.mono _ _ _ _
   | exact LeO.none _
   | refine LeO.ite ?_ ?_
   | refine LeO.bind ?_ (fun _ => ?_)
  ·intro y0 y1 y2 y3 y4 y5
   unfold code_Check.l1
   repeat' first
   | (with_reducible exact ih0 _ _)
   | (with_reducible exact ih1 _ _ _)
   | (with_reducible exact ih2 _ _ _ _ _ _)
   | (with_reducible exact code_instruction.mono _ _ _ _)
   | (with_reducible exact LeO.refl _)
   | (with_reducible exact LeO.none _)
   | (with_reducible refine LeO.ite ?_ ?_)
   | (with_reducible refine LeO.bind ?_ (fun _ => ?_))
   | exact ih0 _ _
   | exact ih1 _ _ _
   | exact ih2 _ _ _ _ _ _
   | exact code_instruction.mono _ _ _ _
   | exact LeO.none _
   | refine LeO.ite ?_ ?_
   | refine LeO.bind ?_ (fun _ => ?_)
theorem code_Check.mono : ∀ a0 k, LeO (code_Check.f k a0) (code_Check.f (k + 1) a0) := by
 intro a0 k
 obtain ⟨ih0, ih1, ih2⟩ := code_Check.mono_l k
 unfold code_Check.f
 repeat' first
  | (with_reducible exact ih0 _ _)
  | (with_reducible exact ih1 _ _ _)
  | (with_reducible exact ih2 _ _ _ _ _ _)
  | (with_reducible exact code_instruction.mono _ _ _ _)
  | (with_reducible exact LeO.refl _)
  | (with_reducible exact LeO.none _)
  | (with_reducible refine LeO.ite ?_ ?_)
  | (with_reducible refine LeO.bind ?_ (fun _ => ?_))
  | exact ih0 _ _
  | exact ih1 _ _ _
  | exact ih2 _ _ _ _ _ _
  | exact code_instruction.mono _ _ _ _
  | exact LeO.none _
  | refine LeO.ite ?_ ?_
  | refine LeO.bind ?_ (fun _ => ?_)
theorem code_Check.calls (k : Nat) (A0 : Option Addr) (c0 : Nat) (l0 : List (S50)) (r1 : Int) (r2 : Int) (r3 : Int) (w : World) (hG : GW w) (hr0 : Kd.C k50 w A0 l0.length l0) (hc0 : l0.length ≤ c0) (h : code_Check.f k l0 = some (r1, r2, r3)) :
 Calls Tryz.prog 12 #[.slice A0 l0.length c0] w fun e w' => e = .returned (.tuple #[.int .i64 r1, .int .i64 r2, .int .i64 r3]) ∧ Below w.heap.size w w' := by
 have HR0 := aS hr0
 have HC0 := aS hc0
 clear hr0 hc0
 have HG := aS hG
 clear hG
 have HB := aS (Below.refl w.heap.size w)
 have H := h
 unfold code_Check.f at H
 clear h
 have HC2 := aS H
 clear H
 go_enter Tryz.func12, Tryz.ntmps12
 go_upto_region 1 with (fail)
 go_cut [16] (fun v16 wc => ∃ (kq : Nat) (x16_1 : Bool), v16 = .bool x16_1 ∧ Aside0 (code_Check.j0 kq l0 x16_1 = some (r1, r2, r3)) ∧ Aside0 (kq ≤ k) ∧ Aside0 (Below w.heap.size w wc))
 case first =>
  have H := HC2.out
  clear HC2
  by_cases c3 : (l0.length : Int) < 1
  ·rw [if_pos c3] at H
   have c3b0 := dT c3
   have c3b1 : decide (l0.length < 1) = true := dT (by omega)
   clear c3
   (first | rw [c3b0] | (simp only [i64_w, i32_w]; rw [c3b0]) | skip)
   have H' := aS H
   clear H
   go_wp2
   go_meet
   case rel => exact ⟨_, (true), rs, H', ⟨by first | omega | exact Nat.le_refl _⟩, ⟨bl HB⟩⟩
  ·rw [if_neg c3] at H
   have c3b0 := dF c3
   have c3b1 : decide (l0.length < 1) = false := dF (by omega)
   clear c3
   (first | rw [c3b0] | (simp only [i64_w, i32_w]; rw [c3b0]) | skip)
   have H' := aS H
   clear H
   go_wp2
   go_meet
   case rel => exact ⟨_, (decide ((l0.length : Int) > 32)), rs, H', ⟨by first | omega | exact Nat.le_refl _⟩, ⟨bl HB⟩⟩
 case rest =>
  clear HC2
  (try clear c1); (try clear p2); (try clear c3); (try clear c3b0); (try clear c3b1)
  obtain ⟨kq, x16_1, rfl, HA, HJ1, HB⟩ := hcut
  cases kq with
  | zero => exact absurd HA.out (by simp [code_Check.j0])
  | succ kj1 =>
   have H := HA.out
   clear HA
   simp only [code_Check.j0] at H
   by_cases c4 : x16_1 = true
   ·subst c4
    rw [if_pos rfl] at H
    simp only [Option.some.injEq, Prod.mk.injEq] at H
    obtain ⟨rfl, rfl, rfl⟩ := H
    go_wp2
    go_ret3
    exact ⟨re, bl HB⟩
   replace c4 := Bool.eq_false_iff.mpr c4
   subst c4
   rw [if_neg iN] at H
   have H' := aS H
   clear H
   go_wp2
   go_loopg [19] kj1 (fun kq v19 w' => ∃ (x19_2 : Int), v19 = .int .i64 x19_2 ∧ Aside0 (code_Check.l0 kq l0 (l0.length : Int) x19_2 = some (r1, r2, r3)) ∧ Aside0 (kq ≤ kj1) ∧ Aside0 (Below w.heap.size w w'))
   case atStart => exact ⟨(0), rs, H', ⟨Nat.le_refl _⟩, ⟨bl HB⟩⟩
   case round =>
    clear H'
    (try clear c1); (try clear p2); (try clear c3); (try clear c3b0); (try clear c3b1); (try clear c4); (try clear p2)
    obtain ⟨x19_2, rfl, HA, HK2, HB⟩ := hrel
    cases gk with
    | zero => exact absurd HA.out (by simp [code_Check.l0])
    | succ k2 =>
     have H := HA.out
     clear HA
     simp only [code_Check.l0] at H
     by_cases c5 : x19_2 < (l0.length : Int); rotate_left
     ·rw [if_neg c5] at H
      have c5b0 := dF c5
      clear c5
      simp only [Option.some.injEq, Prod.mk.injEq] at H
      obtain ⟨rfl, rfl, rfl⟩ := H
      go_wp2
      go_ret3
      exact ⟨re, bl HB⟩
     rw [if_pos c5] at H
     have c5b0 := dT c5
     clear c5
     replace H := bS H
     obtain ⟨t222, A60, H⟩ := H
     (try dsimp only at H)
     have A6 := aS A60
     clear A60
     by_cases c7 : t222 = 0; rotate_left
     ·rw [if_neg c7] at H
      have c7b0 := bF c7
      have c7b1 := nT c7
      simp only [Option.some.injEq, Prod.mk.injEq] at H
      obtain ⟨rfl, rfl, rfl⟩ := H
      go_wp2_with (first | ((with_reducible refine gate_callee (f := 31) rfl ?_); refine gl 24 Tryz.func31 #[.slice A0 l0.length c0, .int .i64 x19_2] ?_; (with_reducible refine (code_head.calls _ _ l0 x19_2 t222 _ ?side1 ?side2 ?side3 A6.out).mono ?_); (case side1 => exact GW.below HG.out (bl HB)); (case side2 => exact cb HR0 HB); (case side3 => exact HC0.out); rintro e w16 ⟨rfl, hb⟩; refine ⟨_, rfl, ?_⟩; replace HB := aS (bs_ (bl HB) hb); clear hb))
      go_ret3
      exact ⟨re, bl HB⟩
     rw [if_pos c7] at H
     have c7b0 := bT c7
     have c7b1 := nF c7
     clear c7
     by_cases c8 : 0 ≤ x19_2; rotate_left
     ·rw [if_neg c8] at H
      cases H
     rw [if_pos c8] at H
     have c8b0 := dT c8
     clear c8
     by_cases c9 : x19_2 < (l0.length : Int); rotate_left
     ·rw [if_neg c9] at H
      cases H
     rw [if_pos c9] at H
     have c9b0 := dT c9
     clear c9
     have H' := aS H
     clear H
     go_wp2_with (first | ((with_reducible refine gate_callee (f := 31) rfl ?_); refine gl 24 Tryz.func31 #[.slice A0 l0.length c0, .int .i64 x19_2] ?_; (with_reducible refine (code_head.calls _ _ l0 x19_2 t222 _ ?side1 ?side2 ?side3 A6.out).mono ?_); (case side1 => exact GW.below HG.out (bl HB)); (case side2 => exact cb HR0 HB); (case side3 => exact HC0.out); rintro e w10 ⟨rfl, hb⟩; refine ⟨_, rfl, ?_⟩; replace HB := aS (bs_ (bl HB) hb); clear hb; have p223 : 0 ≤ (x19_2 : Int) := oa; have q223 : x19_2 < (l0.length : Int) := oa; obtain ⟨ad223, A223_1, c223_1, A223_2, c223_2, A223_4, c223_4, e223, hx223_0, hx223_1, hx223_2, hx223_3, hx223_4, hl223_1, hi223_1, hl223_2, hi223_2, hl223_4, hi223_4⟩ := at_T50 HR0.out x19_2 p223 q223; cases e223; replace hx223_0 := xb HB hx223_0; replace hx223_1 := xb HB hx223_1; replace hx223_2 := xb HB hx223_2; replace hx223_3 := xb HB hx223_3; replace hx223_4 := xb HB hx223_4; have HR223_1 := aS hi223_1; have HC223_1 := aS hl223_1; clear hi223_1 hl223_1; have HR223_2 := aS hi223_2; have HC223_2 := aS hl223_2; clear hi223_2 hl223_2; have HR223_4 := aS hi223_4; have HC223_4 := aS hl223_4; clear hi223_4 hl223_4; replace p223 := eq_true p223; replace q223 := eq_true q223))
     go_loopg [35] k2 (fun kq v35 w' => ∃ (x35_3 : Int), v35 = .int .i64 x35_3 ∧ Aside0 (code_Check.l1 kq l0 x19_2 (l0.length : Int) x19_2 (((rd_T50 l0 x19_2).f4).length : Int) x35_3 = some (r1, r2, r3)) ∧ Aside0 (kq ≤ k2) ∧ Aside0 (Below w.heap.size w w'))
     case atStart => exact ⟨(0), rs, H', ⟨Nat.le_refl _⟩, ⟨bl HB⟩⟩
     case round =>
      clear H'
      (try clear c1); (try clear c2); (try clear p2); (try clear q2); (try clear hx2); (try clear c3); (try clear c3b0); (try clear c3b1); (try clear c4); (try clear c5); (try clear c5b0); (try clear c7); (try clear c7b0); (try clear c7b1); (try clear c8); (try clear c8b0); (try clear c9); (try clear c9b0); (try clear hx223_0); (try clear hx223_1); (try clear hx223_2); (try clear hx223_3); (try clear hx223_4); (try clear p2); (try clear p223); (try clear q223)
      obtain ⟨x35_3, rfl, HA, HK3, HB⟩ := hrel
      cases gk with
      | zero => exact absurd HA.out (by simp [code_Check.l1])
      | succ k3 =>
       have H := HA.out
       clear HA
       simp only [code_Check.l1] at H
       by_cases c11 : x35_3 < (((rd_T50 l0 x19_2).f4).length : Int); rotate_left
       ·rw [if_neg c11] at H
        have c11b0 := dF c11
        clear c11
        have H' := aS H
        clear H
        go_wp2
        go_roundg k3
        case measure => have := HJ1.out; have := HK2.out; have := HK3.out; omega
        case rel => exact ⟨(wrap64 (x19_2 + 1)), rs, H', ⟨by have := HJ1.out; have := HK2.out; have := HK3.out; omega⟩, ⟨bl HB⟩⟩
       rw [if_pos c11] at H
       have c11b0 := dT c11
       clear c11
       replace H := bS H
       obtain ⟨t224, A120, H⟩ := H
       (try dsimp only at H)
       have A12 := aS A120
       clear A120
       by_cases c13 : t224 = 0
       ·rw [if_pos c13] at H
        have c13b0 := bT c13
        have c13b1 := nF c13
        clear c13
        have H' := aS H
        clear H
        go_wp2_with (first | ((with_reducible refine gate_callee (f := 32) rfl ?_); refine gl 41 Tryz.func32 #[.slice (some ad223) l0.length c0, .int .i64 x19_2, .int .i64 x35_3] ?_; (with_reducible refine (code_instruction.calls k3 _ _ l0 x19_2 x35_3 t224 _ ?side1 ?side2 ?side3 A12.out).mono ?_); (case side1 => exact GW.below HG.out (bl HB)); (case side2 => exact cb HR0 HB); (case side3 => exact HC0.out); rintro e w14 ⟨rfl, hb⟩; refine ⟨_, rfl, ?_⟩; replace HB := aS (bs_ (bl HB) hb); clear hb))
        go_roundg k3
        case measure => have := HJ1.out; have := HK2.out; have := HK3.out; omega
        case rel => exact ⟨(wrap64 (x35_3 + 1)), rs, H', ⟨by have := HJ1.out; have := HK2.out; have := HK3.out; omega⟩, ⟨bl HB⟩⟩
       ·rw [if_neg c13] at H
        have c13b0 := bF c13
        have c13b1 := nT c13
        simp only [Option.some.injEq, Prod.mk.injEq] at H
        obtain ⟨rfl, rfl, rfl⟩ := H
        go_wp2_with (first | ((with_reducible refine gate_callee (f := 32) rfl ?_); refine gl 41 Tryz.func32 #[.slice (some ad223) l0.length c0, .int .i64 x19_2, .int .i64 x35_3] ?_; (with_reducible refine (code_instruction.calls k3 _ _ l0 x19_2 x35_3 t224 _ ?side1 ?side2 ?side3 A12.out).mono ?_); (case side1 => exact GW.below HG.out (bl HB)); (case side2 => exact cb HR0 HB); (case side3 => exact HC0.out); rintro e w15 ⟨rfl, hb⟩; refine ⟨_, rfl, ?_⟩; replace HB := aS (bs_ (bl HB) hb); clear hb))
        go_ret3
        exact ⟨re, bl HB⟩
def code_IsCode.f (k : Nat) (l0 : List (S50)) : Option (Bool) := (code_Check.f k l0).bind fun bt225 => (some (bt225.2.2 == 0))
theorem code_IsCode.mono : ∀ a0 k, LeO (code_IsCode.f k a0) (code_IsCode.f (k + 1) a0) := by
 intro a0 k
 unfold code_IsCode.f
 repeat' first
  | (with_reducible exact code_Check.mono _ _)
  | (with_reducible exact LeO.refl _)
  | (with_reducible exact LeO.none _)
  | (with_reducible refine LeO.ite ?_ ?_)
  | (with_reducible refine LeO.bind ?_ (fun _ => ?_))
  | exact code_Check.mono _ _
  | exact LeO.none _
  | refine LeO.ite ?_ ?_
  | refine LeO.bind ?_ (fun _ => ?_)
theorem code_IsCode.calls (k : Nat) (A0 : Option Addr) (c0 : Nat) (l0 : List (S50)) (r : Bool) (w : World) (hG : GW w) (hr0 : Kd.C k50 w A0 l0.length l0) (hc0 : l0.length ≤ c0) (h : code_IsCode.f k l0 = some r) :
 Calls Tryz.prog 13 #[.slice A0 l0.length c0] w fun e w' => e = .returned (.bool r) ∧ Below w.heap.size w w' := by
 have HR0 := aS hr0
 have HC0 := aS hc0
 clear hr0 hc0
 have HG := aS hG
 clear hG
 have HB := aS (Below.refl w.heap.size w)
 have H := h
 unfold code_IsCode.f at H
 clear h
 replace H := bS H
 obtain ⟨⟨t225, t226, t227⟩, A20, H⟩ := H
 (try dsimp only at H)
 have A2 := aS A20
 clear A20
 obtain rfl := sI H
 go_enter Tryz.func13, Tryz.ntmps13
 go_wp2_with (first | ((with_reducible refine gate_callee (f := 12) rfl ?_); refine gl 8 Tryz.func12 #[.slice A0 l0.length c0] ?_; (with_reducible refine (code_Check.calls k _ _ l0 t225 t226 t227 _ ?side1 ?side2 ?side3 A2.out).mono ?_); (case side1 => exact GW.below HG.out (bl HB)); (case side2 => repeat (first | exact HR0.out | (with_reducible refine Kd.C_alloc ?_ _) | (with_reducible refine Kd.C_drewN ?_ _) | (with_reducible refine Kd.C_drew ?_))); (case side3 => exact HC0.out); rintro e w3 ⟨rfl, hb⟩; refine ⟨_, rfl, ?_⟩; replace HB := aS (bs_ (bl HB) hb); clear hb))
 go_ret
 exact ⟨re, bl HB⟩
end Go.Proofs.YtbkknoipgmlcmaaGreatDoor.P

