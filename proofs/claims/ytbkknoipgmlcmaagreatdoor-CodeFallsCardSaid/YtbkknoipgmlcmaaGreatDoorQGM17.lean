import Derived.Test.YtbkknoipgmlcmaaGreatDoorQGM16
set_option linter.all false
set_option maxHeartbeats 8000000
set_option maxRecDepth 100000
namespace Go.Proofs.QP
open Go.RowKit Go.Proofs.PW Go.Proofs.PL Go.Proofs.PM Go.Proofs.FX
section
section
attribute [local go_sem] yd zV
attribute [local go_sem] xf xg xD xE yI yJ xl xm
def zr.j0 : Nat → List (S50) → Int → Int → Bool → Int → Int → Int → Int → Int → Bool → List Int → List Int → ByteArray → Int → Int → Int → Bool → Int → Int → Option (Int)
 | 0, _, _, _, _, _, _, _, _, _, _, _, _, _, _, _, _, _, _, _ => none
 | k + 1, x0, x1, x2, x24, x210000, x210001, x210002, x210003, x210004, x210005, x210006, x210007, x219000, x219001, x219002, x219003, x219004, x219005, x219006 => if x24 = true then (some 5) else ((xX.f x0 x1 x210000 x210001 x210002 x210003 x210004 x210005 x210006 x210007 x219000 x219001 x219002 x219003 x219004 x219005 x219006).bind fun t220 => (if t220 = true then (if 0 ≤ x1 then (if x1 < (x0.length : Int) then (if x2 = (wrap64 ((((z8 x0 x1).f4).length : Int) - 1)) then (if x210000 = 20 then (some 0) else (if x210000 = 26 then (some 0) else (some 10))) else (some 0)) else (none)) else (none)) else (some 2)))
def zr.f (k : Nat) (l0 : List (S50)) (a1 : Int) (a2 : Int) : Option (Int) := if 0 ≤ a1 then (if a1 < (l0.length : Int) then (if 0 ≤ a2 then (if a2 < (((z8 l0 a1).f4).length : Int) then ((xP.f ((zb ((z8 l0 a1).f4) a2).f0)).bind fun bt210 => (if bt210.2.2.2.2.2.2.2 = true then ((z0m.f ((zb ((z8 l0 a1).f4) a2).f0) ((zb ((z8 l0 a1).f4) a2).f1) ((zb ((z8 l0 a1).f4) a2).f2) ((zb ((z8 l0 a1).f4) a2).f3) ((zb ((z8 l0 a1).f4) a2).f4.f0) ((zb ((z8 l0 a1).f4) a2).f4.f1) ((zb ((z8 l0 a1).f4) a2).f4.f2) ((zb ((z8 l0 a1).f4) a2).f4.f3) bt210.1 bt210.2.1 bt210.2.2.1 bt210.2.2.2.1 bt210.2.2.2.2.1 bt210.2.2.2.2.2.1 bt210.2.2.2.2.2.2.1).bind fun t219 => (zr.j0 k l0 a1 a2 (!t219) ((zb ((z8 l0 a1).f4) a2).f0) ((zb ((z8 l0 a1).f4) a2).f1) ((zb ((z8 l0 a1).f4) a2).f2) ((zb ((z8 l0 a1).f4) a2).f3) ((zb ((z8 l0 a1).f4) a2).f4.f0) ((zb ((z8 l0 a1).f4) a2).f4.f1) ((zb ((z8 l0 a1).f4) a2).f4.f2) ((zb ((z8 l0 a1).f4) a2).f4.f3) bt210.1 bt210.2.1 bt210.2.2.1 bt210.2.2.2.1 bt210.2.2.2.2.1 bt210.2.2.2.2.2.1 bt210.2.2.2.2.2.2.1)) else (zr.j0 k l0 a1 a2 true ((zb ((z8 l0 a1).f4) a2).f0) ((zb ((z8 l0 a1).f4) a2).f1) ((zb ((z8 l0 a1).f4) a2).f2) ((zb ((z8 l0 a1).f4) a2).f3) ((zb ((z8 l0 a1).f4) a2).f4.f0) ((zb ((z8 l0 a1).f4) a2).f4.f1) ((zb ((z8 l0 a1).f4) a2).f4.f2) ((zb ((z8 l0 a1).f4) a2).f4.f3) bt210.1 bt210.2.1 bt210.2.2.1 bt210.2.2.2.1 bt210.2.2.2.2.1 bt210.2.2.2.2.2.1 bt210.2.2.2.2.2.2.1))) else (none)) else (none)) else (none)) else (none)
theorem zr.z4S : ∀ k, (∀ y0 y1 y2 y3 y4 y5 y6 y7 y8 y9 y10 y11 y12 y13 y14 y15 y16 y17 y18, LeO (zr.j0 k y0 y1 y2 y3 y4 y5 y6 y7 y8 y9 y10 y11 y12 y13 y14 y15 y16 y17 y18) (zr.j0 (k + 1) y0 y1 y2 y3 y4 y5 y6 y7 y8 y9 y10 y11 y12 y13 y14 y15 y16 y17 y18))
 | 0 => fun _ _ _ _ _ _ _ _ _ _ _ _ _ _ _ _ _ _ _ r h => by simp [zr.j0] at h
 | k + 1 => by
  have ih0 := zr.z4S k
  ·intro y0 y1 y2 y3 y4 y5 y6 y7 y8 y9 y10 y11 y12 y13 y14 y15 y16 y17 y18
   unfold zr.j0
   repeat' first
   | (with_reducible exact ih0 _ _ _ _ _ _ _ _ _ _ _ _ _ _ _ _ _ _ _)
   | (with_reducible exact LeO.refl _)
   | (with_reducible exact LeO.none _)
   | (with_reducible refine LeO.ite ?_ ?_)
   | (with_reducible refine LeO.bind ?_ (fun _ => ?_))
   | exact ih0 _ _ _ _ _ _ _ _ _ _ _ _ _ _ _ _ _ _ _
   | exact LeO.none _
   | refine LeO.ite ?_ ?_
   | refine LeO.bind ?_ (fun _ => ?_)
theorem zr.mono : ∀ a0 a1 a2 k, LeO (zr.f k a0 a1 a2) (zr.f (k + 1) a0 a1 a2) := by
 intro a0 a1 a2 k
 have ih0 := zr.z4S k
 unfold zr.f
 repeat' first
  | (with_reducible exact ih0 _ _ _ _ _ _ _ _ _ _ _ _ _ _ _ _ _ _ _)
  | (with_reducible exact LeO.refl _)
  | (with_reducible exact LeO.none _)
  | (with_reducible refine LeO.ite ?_ ?_)
  | (with_reducible refine LeO.bind ?_ (fun _ => ?_))
  | exact ih0 _ _ _ _ _ _ _ _ _ _ _ _ _ _ _ _ _ _ _
  | exact LeO.none _
  | refine LeO.ite ?_ ?_
  | refine LeO.bind ?_ (fun _ => ?_)
theorem zr.calls (k : Nat) (A0 : Option Addr) (c0 : Nat) (l0 : List (S50)) (a1 : Int) (a2 : Int) (r : Int) (w : World) (hG : GW w) (hr0 : Kd.C k50 w A0 l0.length l0) (hc0 : l0.length ≤ c0) (h : zr.f k l0 a1 a2 = some r) :
 Calls Tryz.prog 32 #[.slice A0 l0.length c0, .int .i64 a1, .int .i64 a2] w fun e w' => e = .returned (.int .i64 r) ∧ Below w.heap.size w w' := by
 have hu63 := Tryz.underlying63
 have hu72 := Tryz.underlying72
 have HR0 := aS hr0
 have HC0 := aS hc0
 clear hr0 hc0
 have HG := aS hG
 clear hG
 have HB := hR w
 have H := h
 unfold zr.f at H
 clear h
 replace H := iD_ H
 obtain ⟨c4b0, H⟩ := H
 replace H := iD_ H
 obtain ⟨c5b0, H⟩ := H
 replace H := iD_ H
 obtain ⟨c6b0, H⟩ := H
 replace H := iD_ H
 obtain ⟨c7b0, H⟩ := H
 replace H := bS H
 obtain ⟨⟨t210, t211, t212, t213, t214, t215, t216, t217⟩, A80, H⟩ := H
 (try dsimp only at H)
 have A8 := aS A80
 clear A80
 have HC9 := aS H
 clear H
 obtain ⟨ad207, A207_1, c207_1, A207_2, c207_2, A207_4, c207_4, e207, hx207_0, hx207_1, hx207_2, hx207_3, hx207_4, hl207_1, hi207_1, hl207_2, hi207_2, hl207_4, hi207_4⟩ := xW HR0.out a1 oa oa
 cases e207
 have HR207_1 := aS hi207_1
 have HC207_1 := aS hl207_1
 clear hi207_1 hl207_1
 have HR207_2 := aS hi207_2
 have HC207_2 := aS hl207_2
 clear hi207_2 hl207_2
 have HR207_4 := aS hi207_4
 have HC207_4 := aS hl207_4
 clear hi207_4 hl207_4
 have p207 : (0 ≤ (a1 : Int)) = True := tO
 have q207 : (a1 < (l0.length : Int)) = True := tO
 obtain ⟨ad208, A208_6, c208_6, A208_7, c208_7, e208, hx208_0, hx208_1, hx208_2, hx208_3, hx208_4, hx208_5, hx208_6, hx208_7, hl208_6, hi208_6, hl208_7, hi208_7⟩ := z0j HR207_4.out a2 oa oa
 cases e208
 have HR208_6 := aS hi208_6
 have HC208_6 := aS hl208_6
 clear hi208_6 hl208_6
 have HR208_7 := aS hi208_7
 have HC208_7 := aS hl208_7
 clear hi208_7 hl208_7
 have p208 : (0 ≤ (a2 : Int)) = True := tO
 have q208 : (a2 < (((z8 l0 a1).f4).length : Int)) = True := tO
 go_enter Tryz.func32, Tryz.ntmps32
 go_upto_region 3 with (first | ((with_reducible refine zq (N := 7) rfl ?_); refine bx (N := 7) (cs := #[.int .i64 0, .int .i64 0, .int .i64 0, .int .i64 0, .int .i64 0, .bool false, .slice none 0 0, .slice none 0 0]) (t := 63) ?_; intro gb209 hg w10 hbox hb; have BK209 := aS (hbox); have GW209 := (gz hg HB : Aside0 (w.heap.size ≤ gb209)); have GE209 := (gz hg HB : Aside0 (w.heap.size ≤ gb209)); replace HB := hB_ HB hb; clear hb hbox hg; obtain ⟨_, _, _, _, _, _, _, _, _, _, _, _, _, _, _, _⟩ := cf8 BK209.out) | ((with_reducible refine zi (f := 41) rfl ?_); refine gl 21 Tryz.func41 #[.int .i64 ((zb ((z8 l0 a1).f4) a2).f0)] ?_; (with_reducible refine (xP.calls ((zb ((z8 l0 a1).f4) a2).f0) t210 t211 t212 t213 t214 t215 t216 t217 _ ?side1 A8.out).mono ?_); (case side1 => exact GW.below HG.out (bl HB)); rintro e w12 ⟨rfl, hb⟩; refine ⟨_, rfl, ?_⟩; replace BK209 := aS (zf (g := gb209) (o := .cells #[.int .i64 ((zb ((z8 l0 a1).f4) a2).f0), .int .i64 ((zb ((z8 l0 a1).f4) a2).f1), .int .i64 ((zb ((z8 l0 a1).f4) a2).f2), .int .i64 ((zb ((z8 l0 a1).f4) a2).f3), .int .i64 ((zb ((z8 l0 a1).f4) a2).f4.f0), .bool ((zb ((z8 l0 a1).f4) a2).f4.f1), .slice A208_6 ((zb ((z8 l0 a1).f4) a2).f4.f2).length c208_6, .slice A208_7 ((zb ((z8 l0 a1).f4) a2).f4.f3).length c208_7] 63 (0, 0)) (bp BK209) hb); replace HB := hB_ HB hb; clear hb) | ((with_reducible refine zq (N := 8) rfl ?_); refine bx (N := 8) (cs := #[.string (⟨#[]⟩ : ByteArray), .int .i64 0, .int .i64 0, .int .i64 0, .bool false, .int .i64 0, .int .i64 0]) (t := 72) ?_; intro gb218 hg w13 hbox hb; have n0_ := aS (zf (bj BK209) hb); have n1_ := aS (bs_ (bl HB) hb); have n2_ := aS (hbox); have n3_ := (gz hg HB : Aside0 (w.heap.size ≤ gb218)); have n4_ := (gz hg HB : Aside0 (w.heap.size ≤ gb218)); have n5_ := aS ((by rw [hg]; exact Nat.ne_of_lt (yR (bj BK209)) : gb209 ≠ gb218)); have n6_ := aS ((by rw [hg]; exact Nat.ne_of_gt (yR (bj BK209)) : gb218 ≠ gb209)); clear BK209; clear HB; have BK209 := n0_; have HB := n1_; have BK218 := n2_; have GW218 := n3_; have GE218 := n4_; have NB209_218 := n5_; have NB218_209 := n6_; clear n0_ n1_ n2_ n3_ n4_ n5_ n6_; clear hb hbox hg; have hnb14 := NB218_209.out; have hnc14 := NB209_218.out; obtain ⟨_, _, _, _, _, _, _, _, _, _, _, _, _, _⟩ := cf7 BK218.out))
 (try simp only [Act.put, List.setIfInBounds_toArray, List.set_cons_zero, List.set_cons_succ])
 go_cut [24] (fun v24 wc => ∃ (kq : Nat) (x24_8 : Bool), v24 = .bool x24_8 ∧ Aside0 (zr.j0 kq l0 a1 a2 x24_8 ((zb ((z8 l0 a1).f4) a2).f0) ((zb ((z8 l0 a1).f4) a2).f1) ((zb ((z8 l0 a1).f4) a2).f2) ((zb ((z8 l0 a1).f4) a2).f3) ((zb ((z8 l0 a1).f4) a2).f4.f0) ((zb ((z8 l0 a1).f4) a2).f4.f1) ((zb ((z8 l0 a1).f4) a2).f4.f2) ((zb ((z8 l0 a1).f4) a2).f4.f3) t210 t211 t212 t213 t214 t215 t216 = some r) ∧ Aside0 (kq ≤ k) ∧ Aside0 (wc.heap[gb209]? = some (.cells #[.int .i64 ((zb ((z8 l0 a1).f4) a2).f0), .int .i64 ((zb ((z8 l0 a1).f4) a2).f1), .int .i64 ((zb ((z8 l0 a1).f4) a2).f2), .int .i64 ((zb ((z8 l0 a1).f4) a2).f3), .int .i64 ((zb ((z8 l0 a1).f4) a2).f4.f0), .bool ((zb ((z8 l0 a1).f4) a2).f4.f1), (.slice A208_6 ((zb ((z8 l0 a1).f4) a2).f4.f2).length c208_6), (.slice A208_7 ((zb ((z8 l0 a1).f4) a2).f4.f3).length c208_7)] 63 (0, 0))) ∧ Aside0 (wc.heap[gb218]? = some (.cells #[.string t210, .int .i64 t211, .int .i64 t212, .int .i64 t213, .bool t214, .int .i64 t215, .int .i64 t216] 72 (0, 0))) ∧ Aside0 (Below w.heap.size w wc))
 case first =>
  have H := HC9.out
  clear HC9
  by_cases c16 : t217 = true
  ·subst c16
   rw [if_pos rfl] at H
   replace H := bA H
   obtain ⟨t219, A17, H⟩ := H
   have H' := aS H
   clear H
   have hnb18 := NB209_218.out
   have hnc18 := NB218_209.out
   obtain ⟨_, _, _, _, _, _, _, _, _, _, _, _, _, _, _, _⟩ := cf8 BK209.out
   obtain ⟨_, _, _, _, _, _, _, _, _, _, _, _, _, _⟩ := cf7 BK218.out
   go_wp2_with (first | (go_at_call 93; (with_reducible refine (z0m.calls ((zb ((z8 l0 a1).f4) a2).f0) ((zb ((z8 l0 a1).f4) a2).f1) ((zb ((z8 l0 a1).f4) a2).f2) ((zb ((z8 l0 a1).f4) a2).f3) ((zb ((z8 l0 a1).f4) a2).f4.f0) ((zb ((z8 l0 a1).f4) a2).f4.f1) _ _ ((zb ((z8 l0 a1).f4) a2).f4.f2) _ _ ((zb ((z8 l0 a1).f4) a2).f4.f3) t210 t211 t212 t213 t214 t215 t216 t219 _ ?side1 ?side2 ?side3 ?side4 ?side5 A17.out).mono ?_); (case side1 => exact GW.below HG.out (bl HB)); (case side2 => exact Kd.zK HR208_6.out (bl HB)); (case side3 => exact HC208_6.out); (case side4 => exact Kd.zK HR208_7.out (bl HB)); (case side5 => exact HC208_7.out); rintro e w21 ⟨rfl, hb⟩; replace BK209 := bb BK209 hb; replace BK218 := aS (zf (g := gb218) (o := .cells #[.string t210, .int .i64 t211, .int .i64 t212, .int .i64 t213, .bool t214, .int .i64 t215, .int .i64 t216] 72 (0, 0)) (bp BK218) hb); replace HB := hB_ HB hb; clear hb))
   go_meet
   case rel => exact ⟨_, (!t219), rs, H', ⟨by first | omega | exact Nat.le_refl _⟩, ⟨bk BK209⟩, ⟨bk BK218⟩, ⟨bl HB⟩⟩
  ·replace c16 := Bool.eq_false_iff.mpr c16
   subst c16
   rw [if_neg iN] at H
   have H' := aS H
   clear H
   go_wp2
   go_meet
   case rel => exact ⟨_, (true), rs, H', ⟨by first | omega | exact Nat.le_refl _⟩, ⟨bp BK209⟩, ⟨bp BK218⟩, ⟨bl HB⟩⟩
 case rest =>
  clear HC9
  obtain ⟨kq, x24_8, rfl, HA, HJ8, BK209, BK218, HB⟩ := hcut
  cases kq with
  | zero => exact absurd HA.out (by simp [zr.j0])
  | succ kj8 =>
   have H := HA.out
   clear HA
   simp only [zr.j0] at H
   by_cases c22 : x24_8 = true
   focus
    subst c22
    rw [if_pos rfl] at H
    obtain rfl := sI H
    go_wp2
    go_ret
    exact ⟨re, bl HB⟩
   focus
    replace c22 := Bool.eq_false_iff.mpr c22
    subst c22
    rw [if_neg iN] at H
    replace H := bA H
    obtain ⟨t220, A23, H⟩ := H
    by_cases c24 : t220 = true
    focus
     subst c24
     rw [if_pos rfl] at H
     replace H := iD_ H
     obtain ⟨c25b0, H⟩ := H
     replace H := iD_ H
     obtain ⟨c26b0, H⟩ := H
     by_cases c27 : a2 = (wrap64 ((((z8 l0 a1).f4).length : Int) - 1))
     focus
      rw [if_pos c27] at H
      have c27b0 := bT c27
      have c27b1 := nF c27
      clear c27
      by_cases c28 : ((zb ((z8 l0 a1).f4) a2).f0) = 20
      focus
       rw [if_pos c28] at H
       have c28b0 := bT c28
       have c28b1 := nF c28
       clear c28
       obtain rfl := sI H
       have hnb29 := NB209_218.out
       have hnc29 := NB218_209.out
       obtain ⟨_, _, _, _, _, _, _, _, _, _, _, _, _, _, _, _⟩ := cf8 BK209.out
       obtain ⟨_, _, _, _, _, _, _, _, _, _, _, _, _, _⟩ := cf7 BK218.out
      rotate_left 1
      focus
       rw [if_neg c28] at H
       have c28b0 := bF c28
       have c28b1 := nT c28
       by_cases c34 : ((zb ((z8 l0 a1).f4) a2).f0) = 26
       focus
        rw [if_pos c34] at H
        have c34b0 := bT c34
        have c34b1 := nF c34
        clear c34
        obtain rfl := sI H
        have hnb35 := NB209_218.out
        have hnc35 := NB218_209.out
        obtain ⟨_, _, _, _, _, _, _, _, _, _, _, _, _, _, _, _⟩ := cf8 BK209.out
        obtain ⟨_, _, _, _, _, _, _, _, _, _, _, _, _, _⟩ := cf7 BK218.out
       rotate_left 1
       focus
        rw [if_neg c34] at H
        have c34b0 := bF c34
        have c34b1 := nT c34
        obtain rfl := sI H
        have hnb40 := NB209_218.out
        have hnc40 := NB218_209.out
        obtain ⟨_, _, _, _, _, _, _, _, _, _, _, _, _, _, _, _⟩ := cf8 BK209.out
        obtain ⟨_, _, _, _, _, _, _, _, _, _, _, _, _, _⟩ := cf7 BK218.out
       rotate_left 1
      rotate_left 2
     rotate_left 3
     focus
      rw [if_neg c27] at H
      have c27b0 := bF c27
      have c27b1 := nT c27
      obtain rfl := sI H
      have hnb45 := NB209_218.out
      have hnc45 := NB218_209.out
      obtain ⟨_, _, _, _, _, _, _, _, _, _, _, _, _, _, _, _⟩ := cf8 BK209.out
      obtain ⟨_, _, _, _, _, _, _, _, _, _, _, _, _, _⟩ := cf7 BK218.out
     rotate_left 1
    rotate_left 4
    focus
     replace c24 := Bool.eq_false_iff.mpr c24
     subst c24
     rw [if_neg iN] at H
     obtain rfl := sI H
     have hnb49 := NB209_218.out
     have hnc49 := NB218_209.out
     obtain ⟨_, _, _, _, _, _, _, _, _, _, _, _, _, _, _, _⟩ := cf8 BK209.out
     obtain ⟨_, _, _, _, _, _, _, _, _, _, _, _, _, _⟩ := cf7 BK218.out
    rotate_left 1
   all_goals (go_wp2_with (first | ((with_reducible refine zi (f := 94) rfl ?_); refine gl 38 Tryz.func94 #[.slice (some ad207) l0.length c0, .int .i64 a1, .agg #[.int .i64 ((zb ((z8 l0 a1).f4) a2).f0), .int .i64 ((zb ((z8 l0 a1).f4) a2).f1), .int .i64 ((zb ((z8 l0 a1).f4) a2).f2), .int .i64 ((zb ((z8 l0 a1).f4) a2).f3), .int .i64 ((zb ((z8 l0 a1).f4) a2).f4.f0), .bool ((zb ((z8 l0 a1).f4) a2).f4.f1), .slice A208_6 ((zb ((z8 l0 a1).f4) a2).f4.f2).length c208_6, .slice A208_7 ((zb ((z8 l0 a1).f4) a2).f4.f3).length c208_7], .agg #[.string t210, .int .i64 t211, .int .i64 t212, .int .i64 t213, .bool t214, .int .i64 t215, .int .i64 t216]] ?_; (with_reducible refine (xX.calls _ _ l0 a1 ((zb ((z8 l0 a1).f4) a2).f0) ((zb ((z8 l0 a1).f4) a2).f1) ((zb ((z8 l0 a1).f4) a2).f2) ((zb ((z8 l0 a1).f4) a2).f3) ((zb ((z8 l0 a1).f4) a2).f4.f0) ((zb ((z8 l0 a1).f4) a2).f4.f1) _ _ ((zb ((z8 l0 a1).f4) a2).f4.f2) _ _ ((zb ((z8 l0 a1).f4) a2).f4.f3) t210 t211 t212 t213 t214 t215 t216 true _ ?side1 ?side2 ?side3 ?side4 ?side5 ?side6 ?side7 A23.out).mono ?_); (case side1 => exact GW.below HG.out (bl HB)); (case side2 => exact cb HR0 HB); (case side3 => exact HC0.out); (case side4 => exact cb HR208_6 HB); (case side5 => exact HC208_6.out); (case side6 => exact cb HR208_7 HB); (case side7 => exact HC208_7.out); rintro e wq1 ⟨rfl, hb⟩; refine ⟨_, rfl, ?_⟩; replace BK209 := bb BK209 hb; replace BK218 := bb BK218 hb; replace HB := hB_ HB hb; clear hb; have p221 : 0 ≤ (a1 : Int) := oa; have q221 : a1 < (l0.length : Int) := oa; obtain ⟨ad221, A221_1, c221_1, A221_2, c221_2, A221_4, c221_4, e221, hx221_0, hx221_1, hx221_2, hx221_3, hx221_4, hl221_1, hi221_1, hl221_2, hi221_2, hl221_4, hi221_4⟩ := xW HR0.out a1 p221 q221; obtain rfl : ad207 = ad221 := (by injection e221); replace hx221_0 := xb HB hx221_0; replace hx221_1 := xb HB hx221_1; replace hx221_2 := xb HB hx221_2; replace hx221_3 := xb HB hx221_3; replace hx221_4 := xb HB hx221_4; have HR221_1 := aS hi221_1; have HC221_1 := aS hl221_1; clear hi221_1 hl221_1; have HR221_2 := aS hi221_2; have HC221_2 := aS hl221_2; clear hi221_2 hl221_2; have HR221_4 := aS hi221_4; have HC221_4 := aS hl221_4; clear hi221_4 hl221_4; replace p221 := eq_true p221; replace q221 := eq_true q221; obtain ⟨_, _, _, _, _, _, _, _, _, _, _, _, _, _, _, _⟩ := cf8 BK209.out) | ((with_reducible refine zi (f := 94) rfl ?_); refine gl 38 Tryz.func94 #[.slice (some ad207) l0.length c0, .int .i64 a1, .agg #[.int .i64 ((zb ((z8 l0 a1).f4) a2).f0), .int .i64 ((zb ((z8 l0 a1).f4) a2).f1), .int .i64 ((zb ((z8 l0 a1).f4) a2).f2), .int .i64 ((zb ((z8 l0 a1).f4) a2).f3), .int .i64 ((zb ((z8 l0 a1).f4) a2).f4.f0), .bool ((zb ((z8 l0 a1).f4) a2).f4.f1), .slice A208_6 ((zb ((z8 l0 a1).f4) a2).f4.f2).length c208_6, .slice A208_7 ((zb ((z8 l0 a1).f4) a2).f4.f3).length c208_7], .agg #[.string t210, .int .i64 t211, .int .i64 t212, .int .i64 t213, .bool t214, .int .i64 t215, .int .i64 t216]] ?_; (with_reducible refine (xX.calls _ _ l0 a1 ((zb ((z8 l0 a1).f4) a2).f0) ((zb ((z8 l0 a1).f4) a2).f1) ((zb ((z8 l0 a1).f4) a2).f2) ((zb ((z8 l0 a1).f4) a2).f3) ((zb ((z8 l0 a1).f4) a2).f4.f0) ((zb ((z8 l0 a1).f4) a2).f4.f1) _ _ ((zb ((z8 l0 a1).f4) a2).f4.f2) _ _ ((zb ((z8 l0 a1).f4) a2).f4.f3) t210 t211 t212 t213 t214 t215 t216 true _ ?side1 ?side2 ?side3 ?side4 ?side5 ?side6 ?side7 A23.out).mono ?_); (case side1 => exact GW.below HG.out (bl HB)); (case side2 => exact cb HR0 HB); (case side3 => exact HC0.out); (case side4 => exact cb HR208_6 HB); (case side5 => exact HC208_6.out); (case side6 => exact cb HR208_7 HB); (case side7 => exact HC208_7.out); rintro e wq1 ⟨rfl, hb⟩; refine ⟨_, rfl, ?_⟩; replace BK209 := bb BK209 hb; replace BK218 := bb BK218 hb; replace HB := hB_ HB hb; clear hb; have p221 : 0 ≤ (a1 : Int) := oa; have q221 : a1 < (l0.length : Int) := oa; obtain ⟨ad221, A221_1, c221_1, A221_2, c221_2, A221_4, c221_4, e221, hx221_0, hx221_1, hx221_2, hx221_3, hx221_4, hl221_1, hi221_1, hl221_2, hi221_2, hl221_4, hi221_4⟩ := xW HR0.out a1 p221 q221; obtain rfl : ad207 = ad221 := (by injection e221); replace hx221_0 := xb HB hx221_0; replace hx221_1 := xb HB hx221_1; replace hx221_2 := xb HB hx221_2; replace hx221_3 := xb HB hx221_3; replace hx221_4 := xb HB hx221_4; have HR221_1 := aS hi221_1; have HC221_1 := aS hl221_1; clear hi221_1 hl221_1; have HR221_2 := aS hi221_2; have HC221_2 := aS hl221_2; clear hi221_2 hl221_2; have HR221_4 := aS hi221_4; have HC221_4 := aS hl221_4; clear hi221_4 hl221_4; replace p221 := eq_true p221; replace q221 := eq_true q221) | ((with_reducible refine zi (f := 94) rfl ?_); refine gl 38 Tryz.func94 #[.slice (some ad207) l0.length c0, .int .i64 a1, .agg #[.int .i64 ((zb ((z8 l0 a1).f4) a2).f0), .int .i64 ((zb ((z8 l0 a1).f4) a2).f1), .int .i64 ((zb ((z8 l0 a1).f4) a2).f2), .int .i64 ((zb ((z8 l0 a1).f4) a2).f3), .int .i64 ((zb ((z8 l0 a1).f4) a2).f4.f0), .bool ((zb ((z8 l0 a1).f4) a2).f4.f1), .slice A208_6 ((zb ((z8 l0 a1).f4) a2).f4.f2).length c208_6, .slice A208_7 ((zb ((z8 l0 a1).f4) a2).f4.f3).length c208_7], .agg #[.string t210, .int .i64 t211, .int .i64 t212, .int .i64 t213, .bool t214, .int .i64 t215, .int .i64 t216]] ?_; (with_reducible refine (xX.calls _ _ l0 a1 ((zb ((z8 l0 a1).f4) a2).f0) ((zb ((z8 l0 a1).f4) a2).f1) ((zb ((z8 l0 a1).f4) a2).f2) ((zb ((z8 l0 a1).f4) a2).f3) ((zb ((z8 l0 a1).f4) a2).f4.f0) ((zb ((z8 l0 a1).f4) a2).f4.f1) _ _ ((zb ((z8 l0 a1).f4) a2).f4.f2) _ _ ((zb ((z8 l0 a1).f4) a2).f4.f3) t210 t211 t212 t213 t214 t215 t216 false _ ?side1 ?side2 ?side3 ?side4 ?side5 ?side6 ?side7 A23.out).mono ?_); (case side1 => exact GW.below HG.out (bl HB)); (case side2 => exact cb HR0 HB); (case side3 => exact HC0.out); (case side4 => exact cb HR208_6 HB); (case side5 => exact HC208_6.out); (case side6 => exact cb HR208_7 HB); (case side7 => exact HC208_7.out); rintro e wq1 ⟨rfl, hb⟩; refine ⟨_, rfl, ?_⟩; replace BK209 := bb BK209 hb; replace BK218 := bb BK218 hb; replace HB := hB_ HB hb; clear hb)))
   ·go_ret
    exact ⟨re, bl HB⟩
   ·go_ret
    exact ⟨re, bl HB⟩
   ·go_ret
    exact ⟨re, bl HB⟩
   ·go_ret
    exact ⟨re, bl HB⟩
   ·go_ret
    exact ⟨re, bl HB⟩
mutual
def zt.j0 : Nat → List (S50) → Bool → Option (Int × Int × Int)
 | 0, _, _ => none
 | k + 1, x0, x16 => if x16 = true then (some (0, 0, 3)) else (zt.l0 k x0 (x0.length : Int) 0)
def zt.l0 : Nat → List (S50) → Int → Int → Option (Int × Int × Int)
 | 0, _, _, _ => none
 | k + 1, x0, x18, x19 => if x19 < x18 then ((z0J.f x0 x19).bind fun t222 => (if t222 = 0 then (if 0 ≤ x19 then (if x19 < (x0.length : Int) then (zt.l1 k x0 x19 x18 x19 (((z8 x0 x19).f4).length : Int) 0) else (none)) else (none)) else (some (x19, 0, t222)))) else (some (0, 0, 0))
def zt.l1 : Nat → List (S50) → Int → Int → Int → Int → Int → Option (Int × Int × Int)
 | 0, _, _, _, _, _, _ => none
 | k + 1, x0, x5, x18, x19, x34, x35 => if x35 < x34 then ((zr.f k x0 x5 x35).bind fun t224 => (if t224 = 0 then (zt.l1 k x0 x5 x18 x19 x34 (wrap64 (x35 + 1))) else (some (x5, x35, t224)))) else (zt.l0 k x0 x18 (wrap64 (x19 + 1)))
end
def zt.f (k : Nat) (l0 : List (S50)) : Option (Int × Int × Int) := if (l0.length : Int) < 1 then (zt.j0 k l0 true) else (zt.j0 k l0 (decide ((l0.length : Int) > 32)))
theorem zt.z4S : ∀ k, (∀ y0 y1, LeO (zt.j0 k y0 y1) (zt.j0 (k + 1) y0 y1)) ∧ (∀ y0 y1 y2, LeO (zt.l0 k y0 y1 y2) (zt.l0 (k + 1) y0 y1 y2)) ∧ (∀ y0 y1 y2 y3 y4 y5, LeO (zt.l1 k y0 y1 y2 y3 y4 y5) (zt.l1 (k + 1) y0 y1 y2 y3 y4 y5))
 | 0 => ⟨fun _ _ r h => by simp [zt.j0] at h, fun _ _ _ r h => by simp [zt.l0] at h, fun _ _ _ _ _ _ r h => by simp [zt.l1] at h⟩
 | k + 1 => by
  obtain ⟨ih0, ih1, ih2⟩ := zt.z4S k
  refine ⟨?_, ?_, ?_⟩
  ·intro y0 y1
   unfold zt.j0
   repeat' first
   | (with_reducible exact ih0 _ _)
   | (with_reducible exact ih1 _ _ _)
   | (with_reducible exact ih2 _ _ _ _ _ _)
   | (with_reducible exact zr.mono _ _ _ _)
   | (with_reducible exact LeO.refl _)
   | (with_reducible exact LeO.none _)
   | (with_reducible refine LeO.ite ?_ ?_)
   | (with_reducible refine LeO.bind ?_ (fun _ => ?_))
   | exact ih0 _ _
   | exact ih1 _ _ _
   | exact ih2 _ _ _ _ _ _
   | exact zr.mono _ _ _ _
   | exact LeO.none _
   | refine LeO.ite ?_ ?_
   | refine LeO.bind ?_ (fun _ => ?_)
  ·intro y0 y1 y2
   unfold zt.l0
   repeat' first
   | (with_reducible exact ih0 _ _)
   | (with_reducible exact ih1 _ _ _)
   | (with_reducible exact ih2 _ _ _ _ _ _)
   | (with_reducible exact zr.mono _ _ _ _)
   | (with_reducible exact LeO.refl _)
   | (with_reducible exact LeO.none _)
   | (with_reducible refine LeO.ite ?_ ?_)
   | (with_reducible refine LeO.bind ?_ (fun _ => ?_))
   | exact ih0 _ _
   | exact ih1 _ _ _
   | exact ih2 _ _ _ _ _ _
   | exact zr.mono _ _ _ _
   | exact LeO.none _
   | refine LeO.ite ?_ ?_
   | refine LeO.bind ?_ (fun _ => ?_)
  ·intro y0 y1 y2 y3 y4 y5
   unfold zt.l1
   repeat' first
   | (with_reducible exact ih0 _ _)
   | (with_reducible exact ih1 _ _ _)
   | (with_reducible exact ih2 _ _ _ _ _ _)
   | (with_reducible exact zr.mono _ _ _ _)
   | (with_reducible exact LeO.refl _)
   | (with_reducible exact LeO.none _)
   | (with_reducible refine LeO.ite ?_ ?_)
   | (with_reducible refine LeO.bind ?_ (fun _ => ?_))
   | exact ih0 _ _
   | exact ih1 _ _ _
   | exact ih2 _ _ _ _ _ _
   | exact zr.mono _ _ _ _
   | exact LeO.none _
   | refine LeO.ite ?_ ?_
   | refine LeO.bind ?_ (fun _ => ?_)
theorem zt.mono : ∀ a0 k, LeO (zt.f k a0) (zt.f (k + 1) a0) := by
 intro a0 k
 obtain ⟨ih0, ih1, ih2⟩ := zt.z4S k
 unfold zt.f
 repeat' first
  | (with_reducible exact ih0 _ _)
  | (with_reducible exact ih1 _ _ _)
  | (with_reducible exact ih2 _ _ _ _ _ _)
  | (with_reducible exact zr.mono _ _ _ _)
  | (with_reducible exact LeO.refl _)
  | (with_reducible exact LeO.none _)
  | (with_reducible refine LeO.ite ?_ ?_)
  | (with_reducible refine LeO.bind ?_ (fun _ => ?_))
  | exact ih0 _ _
  | exact ih1 _ _ _
  | exact ih2 _ _ _ _ _ _
  | exact zr.mono _ _ _ _
  | exact LeO.none _
  | refine LeO.ite ?_ ?_
  | refine LeO.bind ?_ (fun _ => ?_)
theorem zt.calls (k : Nat) (A0 : Option Addr) (c0 : Nat) (l0 : List (S50)) (r1 : Int) (r2 : Int) (r3 : Int) (w : World) (hG : GW w) (hr0 : Kd.C k50 w A0 l0.length l0) (hc0 : l0.length ≤ c0) (h : zt.f k l0 = some (r1, r2, r3)) :
 Calls Tryz.prog 12 #[.slice A0 l0.length c0] w fun e w' => e = .returned (.tuple #[.int .i64 r1, .int .i64 r2, .int .i64 r3]) ∧ Below w.heap.size w w' := by
 have HR0 := aS hr0
 have HC0 := aS hc0
 clear hr0 hc0
 have HG := aS hG
 clear hG
 have HB := hR w
 have H := h
 unfold zt.f at H
 clear h
 have HC2 := aS H
 clear H
 go_enter Tryz.func12, Tryz.ntmps12
 go_upto_region 1 with (fail)
 go_cut [16] (fun v16 wc => ∃ (kq : Nat) (x16_1 : Bool), v16 = .bool x16_1 ∧ Aside0 (zt.j0 kq l0 x16_1 = some (r1, r2, r3)) ∧ Aside0 (kq ≤ k) ∧ Aside0 (Below w.heap.size w wc))
 case first =>
  have H := HC2.out
  clear HC2
  by_cases c3 : (l0.length : Int) < 1
  ·rw [if_pos c3] at H
   have c3b0 := dT c3
   have c3b1 : decide (l0.length < 1) = true := dT (by omega)
   clear c3
   (first | rw [c3b0] | (simp only [yh, yQ]; rw [c3b0]) | skip)
   have H' := aS H
   clear H
   go_wp2
   go_meet
   case rel => exact ⟨_, (true), rs, H', ⟨by first | omega | exact Nat.le_refl _⟩, ⟨bl HB⟩⟩
  ·rw [if_neg c3] at H
   have c3b0 := dF c3
   have c3b1 : decide (l0.length < 1) = false := dF (by omega)
   clear c3
   (first | rw [c3b0] | (simp only [yh, yQ]; rw [c3b0]) | skip)
   have H' := aS H
   clear H
   go_wp2
   go_meet
   case rel => exact ⟨_, (decide ((l0.length : Int) > 32)), rs, H', ⟨by first | omega | exact Nat.le_refl _⟩, ⟨bl HB⟩⟩
 case rest =>
  clear HC2
  obtain ⟨kq, x16_1, rfl, HA, HJ1, HB⟩ := hcut
  cases kq with
  | zero => exact absurd HA.out (by simp [zt.j0])
  | succ kj1 =>
   have H := HA.out
   clear HA
   simp only [zt.j0] at H
   by_cases c4 : x16_1 = true
   ·subst c4
    rw [if_pos rfl] at H
    simp only [Option.some.injEq, Prod.mk.injEq] at H
    obtain ⟨rfl, rfl, rfl⟩ := H
    go_wp2
    go_ret3
    exact ⟨re, bl HB⟩
   replace c4 := Bool.eq_false_iff.mpr c4
   subst c4
   rw [if_neg iN] at H
   have H' := aS H
   clear H
   go_wp2
   go_loopg [19] kj1 (fun kq v19 w' => ∃ (x19_2 : Int), v19 = .int .i64 x19_2 ∧ Aside0 (zt.l0 kq l0 (l0.length : Int) x19_2 = some (r1, r2, r3)) ∧ Aside0 (kq ≤ kj1) ∧ Aside0 (Below w.heap.size w w'))
   case atStart => exact ⟨(0), rs, H', ⟨Nat.le_refl _⟩, ⟨bl HB⟩⟩
   case round =>
    clear H'
    obtain ⟨x19_2, rfl, HA, HK2, HB⟩ := hrel
    cases gk with
    | zero => exact absurd HA.out (by simp [zt.l0])
    | succ k2 =>
     have H := HA.out
     clear HA
     simp only [zt.l0] at H
     by_cases c5 : x19_2 < (l0.length : Int); rotate_left
     ·rw [if_neg c5] at H
      have c5b0 := dF c5
      clear c5
      simp only [Option.some.injEq, Prod.mk.injEq] at H
      obtain ⟨rfl, rfl, rfl⟩ := H
      go_wp2
      go_ret3
      exact ⟨re, bl HB⟩
     rw [if_pos c5] at H
     have c5b0 := dT c5
     clear c5
     replace H := bA H
     obtain ⟨t222, A6, H⟩ := H
     by_cases c7 : t222 = 0; rotate_left
     ·rw [if_neg c7] at H
      have c7b0 := bF c7
      have c7b1 := nT c7
      simp only [Option.some.injEq, Prod.mk.injEq] at H
      obtain ⟨rfl, rfl, rfl⟩ := H
      go_wp2_with (first | ((with_reducible refine zi (f := 31) rfl ?_); refine gl 24 Tryz.func31 #[.slice A0 l0.length c0, .int .i64 x19_2] ?_; (with_reducible refine (z0J.calls _ _ l0 x19_2 t222 _ ?side1 ?side2 ?side3 A6.out).mono ?_); (case side1 => exact GW.below HG.out (bl HB)); (case side2 => exact cb HR0 HB); (case side3 => exact HC0.out); rintro e w16 ⟨rfl, hb⟩; refine ⟨_, rfl, ?_⟩; replace HB := hB_ HB hb; clear hb))
      go_ret3
      exact ⟨re, bl HB⟩
     rw [if_pos c7] at H
     have c7b0 := bT c7
     have c7b1 := nF c7
     clear c7
     replace H := iD_ H
     obtain ⟨c8b0, H⟩ := H
     replace H := iD_ H
     obtain ⟨c9b0, H⟩ := H
     have H' := aS H
     clear H
     go_wp2_with (first | ((with_reducible refine zi (f := 31) rfl ?_); refine gl 24 Tryz.func31 #[.slice A0 l0.length c0, .int .i64 x19_2] ?_; (with_reducible refine (z0J.calls _ _ l0 x19_2 t222 _ ?side1 ?side2 ?side3 A6.out).mono ?_); (case side1 => exact GW.below HG.out (bl HB)); (case side2 => exact cb HR0 HB); (case side3 => exact HC0.out); rintro e w10 ⟨rfl, hb⟩; refine ⟨_, rfl, ?_⟩; replace HB := hB_ HB hb; clear hb; have p223 : 0 ≤ (x19_2 : Int) := oa; have q223 : x19_2 < (l0.length : Int) := oa; obtain ⟨ad223, A223_1, c223_1, A223_2, c223_2, A223_4, c223_4, e223, hx223_0, hx223_1, hx223_2, hx223_3, hx223_4, hl223_1, hi223_1, hl223_2, hi223_2, hl223_4, hi223_4⟩ := xW HR0.out x19_2 p223 q223; cases e223; replace hx223_0 := xb HB hx223_0; replace hx223_1 := xb HB hx223_1; replace hx223_2 := xb HB hx223_2; replace hx223_3 := xb HB hx223_3; replace hx223_4 := xb HB hx223_4; have HR223_1 := aS hi223_1; have HC223_1 := aS hl223_1; clear hi223_1 hl223_1; have HR223_2 := aS hi223_2; have HC223_2 := aS hl223_2; clear hi223_2 hl223_2; have HR223_4 := aS hi223_4; have HC223_4 := aS hl223_4; clear hi223_4 hl223_4; replace p223 := eq_true p223; replace q223 := eq_true q223))
     go_loopg [35] k2 (fun kq v35 w' => ∃ (x35_3 : Int), v35 = .int .i64 x35_3 ∧ Aside0 (zt.l1 kq l0 x19_2 (l0.length : Int) x19_2 (((z8 l0 x19_2).f4).length : Int) x35_3 = some (r1, r2, r3)) ∧ Aside0 (kq ≤ k2) ∧ Aside0 (Below w.heap.size w w'))
     case atStart => exact ⟨(0), rs, H', ⟨Nat.le_refl _⟩, ⟨bl HB⟩⟩
     case round =>
      clear H'
      obtain ⟨x35_3, rfl, HA, HK3, HB⟩ := hrel
      cases gk with
      | zero => exact absurd HA.out (by simp [zt.l1])
      | succ k3 =>
       have H := HA.out
       clear HA
       simp only [zt.l1] at H
       by_cases c11 : x35_3 < (((z8 l0 x19_2).f4).length : Int); rotate_left
       ·rw [if_neg c11] at H
        have c11b0 := dF c11
        clear c11
        have H' := aS H
        clear H
        go_wp2
        go_roundg k3
        case measure => have := HJ1.out; have := HK2.out; have := HK3.out; omega
        case rel => exact ⟨(wrap64 (x19_2 + 1)), rs, H', ⟨by have := HJ1.out; have := HK2.out; have := HK3.out; omega⟩, ⟨bl HB⟩⟩
       rw [if_pos c11] at H
       have c11b0 := dT c11
       clear c11
       replace H := bA H
       obtain ⟨t224, A12, H⟩ := H
       by_cases c13 : t224 = 0
       ·rw [if_pos c13] at H
        have c13b0 := bT c13
        have c13b1 := nF c13
        clear c13
        have H' := aS H
        clear H
        go_wp2_with (first | ((with_reducible refine zi (f := 32) rfl ?_); refine gl 41 Tryz.func32 #[.slice (some ad223) l0.length c0, .int .i64 x19_2, .int .i64 x35_3] ?_; (with_reducible refine (zr.calls k3 _ _ l0 x19_2 x35_3 t224 _ ?side1 ?side2 ?side3 A12.out).mono ?_); (case side1 => exact GW.below HG.out (bl HB)); (case side2 => exact cb HR0 HB); (case side3 => exact HC0.out); rintro e w14 ⟨rfl, hb⟩; refine ⟨_, rfl, ?_⟩; replace HB := hB_ HB hb; clear hb))
        go_roundg k3
        case measure => have := HJ1.out; have := HK2.out; have := HK3.out; omega
        case rel => exact ⟨(wrap64 (x35_3 + 1)), rs, H', ⟨by have := HJ1.out; have := HK2.out; have := HK3.out; omega⟩, ⟨bl HB⟩⟩
       ·rw [if_neg c13] at H
        have c13b0 := bF c13
        have c13b1 := nT c13
        simp only [Option.some.injEq, Prod.mk.injEq] at H
        obtain ⟨rfl, rfl, rfl⟩ := H
        go_wp2_with (first | ((with_reducible refine zi (f := 32) rfl ?_); refine gl 41 Tryz.func32 #[.slice (some ad223) l0.length c0, .int .i64 x19_2, .int .i64 x35_3] ?_; (with_reducible refine (zr.calls k3 _ _ l0 x19_2 x35_3 t224 _ ?side1 ?side2 ?side3 A12.out).mono ?_); (case side1 => exact GW.below HG.out (bl HB)); (case side2 => exact cb HR0 HB); (case side3 => exact HC0.out); rintro e w15 ⟨rfl, hb⟩; refine ⟨_, rfl, ?_⟩; replace HB := hB_ HB hb; clear hb))
        go_ret3
        exact ⟨re, bl HB⟩
def yF.f (k : Nat) (l0 : List (S50)) : Option (Bool) := (zt.f k l0).bind fun bt225 => (some (bt225.2.2 == 0))
theorem yF.mono : ∀ a0 k, LeO (yF.f k a0) (yF.f (k + 1) a0) := by
 intro a0 k
 unfold yF.f
 repeat' first
  | (with_reducible exact zt.mono _ _)
  | (with_reducible exact LeO.refl _)
  | (with_reducible exact LeO.none _)
  | (with_reducible refine LeO.ite ?_ ?_)
  | (with_reducible refine LeO.bind ?_ (fun _ => ?_))
  | exact zt.mono _ _
  | exact LeO.none _
  | refine LeO.ite ?_ ?_
  | refine LeO.bind ?_ (fun _ => ?_)
theorem yF.calls (k : Nat) (A0 : Option Addr) (c0 : Nat) (l0 : List (S50)) (r : Bool) (w : World) (hG : GW w) (hr0 : Kd.C k50 w A0 l0.length l0) (hc0 : l0.length ≤ c0) (h : yF.f k l0 = some r) :
 Calls Tryz.prog 13 #[.slice A0 l0.length c0] w fun e w' => e = .returned (.bool r) ∧ Below w.heap.size w w' := by
 have HR0 := aS hr0
 have HC0 := aS hc0
 clear hr0 hc0
 have HG := aS hG
 clear hG
 have HB := hR w
 have H := h
 unfold yF.f at H
 clear h
 replace H := bS H
 obtain ⟨⟨t225, t226, t227⟩, A20, H⟩ := H
 (try dsimp only at H)
 have A2 := aS A20
 clear A20
 obtain rfl := sI H
 go_enter Tryz.func13, Tryz.ntmps13
 go_wp2_with (first | ((with_reducible refine zi (f := 12) rfl ?_); refine gl 8 Tryz.func12 #[.slice A0 l0.length c0] ?_; (with_reducible refine (zt.calls k _ _ l0 t225 t226 t227 _ ?side1 ?side2 ?side3 A2.out).mono ?_); (case side1 => exact GW.below HG.out (bl HB)); (case side2 => exact cA HR0.out); (case side3 => exact HC0.out); rintro e w3 ⟨rfl, hb⟩; refine ⟨_, rfl, ?_⟩; replace HB := hB_ HB hb; clear hb))
 go_ret
 exact ⟨re, bl HB⟩
end
end
def thR (use n many at_ slots ins : Int) : Bool :=
 if use = 1 then decide (0 ≤ n) && decide (n < slots) else if use = 2 then decide (0 ≤ n) && decide (n < ins) else if use = 3 then decide (0 ≤ n) && decide (n < at_)
 else if use = 4 then decide (0 ≤ n) && (decide (n ≤ slots) && decide (many ≤ wrap64 (slots - n))) else true
theorem z15 (use n many at_ slots : Int) (nm : ByteArray) (R1 R2 R4 : Option Addr) (n1 k1 n2 k2 n4 k4 : Nat) (w : World) :
 Calls Tryz.prog 100 #[.int .i64 use, .int .i64 n, .int .i64 many, .int .i64 at_, .agg #[.string nm, .slice R1 n1 k1, .slice R2 n2 k2, .int .i64 slots, .slice R4 n4 k4]] w fun e w' => e = .returned (.bool (thR use n many at_ slots (n4 : Int))) ∧ Below w.heap.size w w' := by
 have hu50 := Tryz.underlying50
 have HR : Aside0 (thR use n many at_ slots (n4 : Int) = thR use n many at_ slots (n4 : Int)) := ⟨rfl⟩
 go_enter Tryz.func100, Tryz.ntmps100
 go_wp2
 all_goals (refine bodyPost_ret (v := .bool (thR use n many at_ slots (n4 : Int))) ?_ rfl ⟨rfl, by repeat (first | exact Below.refl _ _ | apply zl | apply zd | apply zD)⟩)
 all_goals (simp [results, Tryz.results100, go_sem]; unfold thR; simp_all)
 all_goals omega
def knA (l : List S50) (at_ i0 : Int) : Int := if i0 = 26 then ((z8 l at_).f2.length : Int) else 0
def knB (l : List S50) (at_ i0 i1 : Int) : Int := if i0 = 25 ∧ 0 ≤ i1 ∧ i1 < at_ then ((z8 l i1).f1.length : Int) else 0
def knC (l : List S50) (at_ i0 i1 : Int) : Int := if i0 = 25 ∧ 0 ≤ i1 ∧ i1 < at_ then ((z8 l i1).f2.length : Int) else 0
def knR (l : List S50) (at_ i0 i1 i2 i3 f1 f2 f3 : Int) : Bool :=
 thR f1 i1 (knA l at_ i0) at_ (z8 l at_).f3 ((z8 l at_).f4.length : Int) && (thR f2 i2 (knB l at_ i0 i1) at_ (z8 l at_).f3 ((z8 l at_).f4.length : Int) && thR f3 i3 (knC l at_ i0 i1) at_ (z8 l at_).f3 ((z8 l at_).f4.length : Int))
def xz.f (l : List S50) (at_ i0 i1 i2 i3 i4 : Int) (i5 : Bool) (i6 i7 : List Int) : Option Bool :=
 if 0 ≤ at_ ∧ at_ < (l.length : Int) then (yr.f i0).bind fun f => some (knR l at_ i0 i1 i2 i3 f.2.1 f.2.2.1 f.2.2.2.1) else none
theorem xz.calls (A0 : Option Addr) (c0 : Nat) (l0 : List S50) (a1 i0 i1 i2 i3 i4 : Int) (i5 : Bool) (A6 : Option Addr) (c6 : Nat) (i6 : List Int) (A7 : Option Addr) (c7 : Nat) (i7 : List Int) (r : Bool) (w : World) (hr0 : Kd.C k50 w A0 l0.length l0) (hc0 : l0.length ≤ c0) (hr6 : Kd.C (Kd.int .u32) w A6 i6.length i6) (hc6 : i6.length ≤ c6) (hr7 : Kd.C (Kd.int .u32) w A7 i7.length i7) (hc7 : i7.length ≤ c7) (h : xz.f l0 a1 i0 i1 i2 i3 i4 i5 i6 i7 = some r) :
 Calls Tryz.prog 35 #[.slice A0 l0.length c0, .int .i64 a1, .agg #[.int .i64 i0, .int .i64 i1, .int .i64 i2, .int .i64 i3, .int .i64 i4, .bool i5, .slice A6 i6.length c6, .slice A7 i7.length c7]] w fun e w' => e = .returned (.bool r) ∧ Below w.heap.size w w' := by
 have hu63 := Tryz.underlying63
 have hu50 := Tryz.underlying50
 have hu97 := Tryz.underlying97
 unfold xz.f at h
 by_cases hat : 0 ≤ a1 ∧ a1 < (l0.length : Int)
 case neg => rw [if_neg hat] at h; cases h
 rw [if_pos hat] at h
 obtain ⟨⟨f0, f1, f2, f3, f4, f5⟩, hf, h⟩ := bS h
 obtain rfl := sI h
 have HF := aS hf
 have HB := hR w
 have HR0 := aS hr0
 have HC0 := aS hc0
 have HAT := aS hat
 have fa1 : (0 ≤ a1) = True := eq_true hat.1
 have fa2 : (a1 < (l0.length : Int)) = True := eq_true hat.2
 clear hr0 hc0 hr6 hc6 hr7 hc7 h hf hat
 dsimp only
 unfold knR
 obtain ⟨rr, hrr⟩ : ∃ rr, (thR f1 i1 (knA l0 a1 i0) a1 (z8 l0 a1).f3 ((z8 l0 a1).f4.length : Int) && (thR f2 i2 (knB l0 a1 i0 i1) a1 (z8 l0 a1).f3 ((z8 l0 a1).f4.length : Int) && thR f3 i3 (knC l0 a1 i0 i1) a1 (z8 l0 a1).f3 ((z8 l0 a1).f4.length : Int))) = rr := ⟨_, rfl⟩
 rw [hrr]
 have HJ : Aside0 ((thR f1 i1 (knA l0 a1 i0) a1 (z8 l0 a1).f3 ((z8 l0 a1).f4.length : Int) && (thR f2 i2 (knB l0 a1 i0 i1) a1 (z8 l0 a1).f3 ((z8 l0 a1).f4.length : Int) && thR f3 i3 (knC l0 a1 i0 i1) a1 (z8 l0 a1).f3 ((z8 l0 a1).f4.length : Int))) = rr) := ⟨hrr⟩
 clear hrr
 go_enter Tryz.func35, Tryz.ntmps35
 go_wp2_with fail
 (with_reducible refine (yr.calls i0 f0 f1 f2 f3 f4 f5 _ HF.out).mono ?_)
 rintro e w1 ⟨rfl, hb⟩
 replace HB := aS (bs_ (zl HB.out _) hb)
 have BX := aS (zf (xt w _) hb)
 clear hb
 obtain ⟨ad, R1, k1, R2, k2, R4, k4, eA, y0, y1, y2, y3, y4, _, _, _, _, _, _⟩ := xW (Kd.zK HR0.out HB.out) a1 HAT.out.1 HAT.out.2
 subst eA
 have up : ∀ {A v}, w1.cell? A = some v → ∀ o, (w1.alloc o).cell? A = some v := fun h o => ze (zl (Below.refl _ _) o) h
 have x0 := up y0
 have x1 := up y1
 have x2 := up y2
 have x3 := up y3
 have x4 := up y4
 clear up y0 y1 y2 y3 y4
 go_upto_region 4 with fail
 refine z2x (fun W => Below w.heap.size w W ∧ W.heap[w.heap.size]? = some (.cells #[.int .i64 i0, .int .i64 i1, .int .i64 i2, .int .i64 i3, .int .i64 i4, .bool i5, .slice A6 i6.length c6, .slice A7 i7.length c7] 63 (0, 0)) ∧
  W.heap[w1.heap.size]? = some (.cells #[.string f0, .int .i64 f1, .int .i64 f2, .int .i64 f3, .bool f4] 97 (0, 0)) ∧
  W.heap[w1.heap.size + 1]? = some (.cells #[.string (z8 l0 a1).f0, .slice R1 (z8 l0 a1).f1.length k1, .slice R2 (z8 l0 a1).f2.length k2, .int .i64 (z8 l0 a1).f3, .slice R4 (z8 l0 a1).f4.length k4] 50 (0, 0))) ?_ ?_
 ·refine ⟨zl (zl HB.out _) _, zZ (zZ BX.out _) _, zZ (xt _ _) _, ?_⟩
  have h := xt (w1.alloc (.cells #[.string f0, .int .i64 f1, .int .i64 f2, .int .i64 f3, .bool f4] 97)) (.cells #[.string (z8 l0 a1).f0, .slice R1 (z8 l0 a1).f1.length k1, .slice R2 (z8 l0 a1).f2.length k2, .int .i64 (z8 l0 a1).f3, .slice R4 (z8 l0 a1).f4.length k4] 50)
  rw [show (w1.alloc (.cells #[.string f0, .int .i64 f1, .int .i64 f2, .int .i64 f3, .bool f4] 97)).heap.size = w1.heap.size + 1 by simp] at h
  exact h
 clear x0 x1 x2 x3 x4 HB BX
 rintro w2 ⟨hB, hX, hF, hR⟩
 have HB := aS hB
 have BX := aS hX
 have BF := aS hF
 have BR := aS hR
 clear hB hX hF hR
 obtain ⟨x0, x1, x2, x3, x4, x5, x6, x7⟩ := xo BX.out
 obtain ⟨g0, g1, g2, g3, g4⟩ := yL BF.out
 obtain ⟨r0, r1, r2, r3, r4⟩ := yL BR.out
 by_cases h26 : i0 = 26
 ·have kA : knA l0 a1 i0 = ((z8 l0 a1).f2.length : Int) := by unfold knA; rw [if_pos h26]
  have kB : knB l0 a1 i0 i1 = 0 := by unfold knB; rw [if_neg (by omega)]
  have kC : knC l0 a1 i0 i1 = 0 := by unfold knC; rw [if_neg (by omega)]
  have q1 : (i0 == 26) = true := beq_iff_eq.2 h26
  have q2 : (i0 = 26) = True := eq_true h26
  clear h26
  rw [kA, kB, kC] at HJ
  clear kA kB kC
  rcases Bool.eq_false_or_eq_true (thR f1 i1 ((z8 l0 a1).f2.length : Int) a1 (z8 l0 a1).f3 ((z8 l0 a1).f4.length : Int)) with e1 | e1 <;> rcases Bool.eq_false_or_eq_true (thR f2 i2 0 a1 (z8 l0 a1).f3 ((z8 l0 a1).f4.length : Int)) with e2 | e2 <;> rcases Bool.eq_false_or_eq_true (thR f3 i3 0 a1 (z8 l0 a1).f3 ((z8 l0 a1).f4.length : Int)) with e3 | e3 <;> rw [e1, e2, e3] at HJ
  all_goals (go_wp2_with (go_at_call 100; refine (z15 _ _ _ _ _ _ _ _ _ _ _ _ _ _ _ _).mono ?_; rintro e w3 ⟨rfl, hb⟩; replace HB := aS (bs_ HB.out hb); replace BX := aS (zf BX.out hb); replace BF := aS (zf BF.out hb); replace BR := aS (zf BR.out hb); clear hb x0 x1 x2 x3 x4 x5 x6 x7 g0 g1 g2 g3 g4 r0 r1 r2 r3 r4; obtain ⟨x0, x1, x2, x3, x4, x5, x6, x7⟩ := xo BX.out; obtain ⟨g0, g1, g2, g3, g4⟩ := yL BF.out; obtain ⟨r0, r1, r2, r3, r4⟩ := yL BR.out))
  all_goals (go_ret; exact ⟨by have h9 := HJ.out; rw [← h9]; rfl, HB.out⟩)
 have q1 : (i0 == 26) = false := beq_eq_false_iff_ne.2 h26
 have q2 : (i0 = 26) = False := eq_false h26
 have kA : knA l0 a1 i0 = 0 := by unfold knA; rw [if_neg h26]
 clear h26
 by_cases h25 : i0 = 25; rotate_left
 ·have q3 : (i0 == 25) = false := beq_eq_false_iff_ne.2 h25
  have q4 : (i0 = 25) = False := eq_false h25
  have kB : knB l0 a1 i0 i1 = 0 := by unfold knB; rw [if_neg (fun h => h25 h.1)]
  have kC : knC l0 a1 i0 i1 = 0 := by unfold knC; rw [if_neg (fun h => h25 h.1)]
  clear h25
  rw [kA, kB, kC] at HJ
  clear kA kB kC
  rcases Bool.eq_false_or_eq_true (thR f1 i1 0 a1 (z8 l0 a1).f3 ((z8 l0 a1).f4.length : Int)) with e1 | e1 <;> rcases Bool.eq_false_or_eq_true (thR f2 i2 0 a1 (z8 l0 a1).f3 ((z8 l0 a1).f4.length : Int)) with e2 | e2 <;> rcases Bool.eq_false_or_eq_true (thR f3 i3 0 a1 (z8 l0 a1).f3 ((z8 l0 a1).f4.length : Int)) with e3 | e3 <;> rw [e1, e2, e3] at HJ
  all_goals (go_wp2_with (go_at_call 100; refine (z15 _ _ _ _ _ _ _ _ _ _ _ _ _ _ _ _).mono ?_; rintro e w3 ⟨rfl, hb⟩; replace HB := aS (bs_ HB.out hb); replace BX := aS (zf BX.out hb); replace BF := aS (zf BF.out hb); replace BR := aS (zf BR.out hb); clear hb x0 x1 x2 x3 x4 x5 x6 x7 g0 g1 g2 g3 g4 r0 r1 r2 r3 r4; obtain ⟨x0, x1, x2, x3, x4, x5, x6, x7⟩ := xo BX.out; obtain ⟨g0, g1, g2, g3, g4⟩ := yL BF.out; obtain ⟨r0, r1, r2, r3, r4⟩ := yL BR.out))
  all_goals (go_ret; exact ⟨by have h9 := HJ.out; rw [← h9]; rfl, HB.out⟩)
 have q3 : (i0 == 25) = true := beq_iff_eq.2 h25
 have q4 : (i0 = 25) = True := eq_true h25
 by_cases hr : 0 ≤ i1 ∧ i1 < a1
 ·have kB : knB l0 a1 i0 i1 = ((z8 l0 i1).f1.length : Int) := by unfold knB; rw [if_pos ⟨h25, hr⟩]
  have kC : knC l0 a1 i0 i1 = ((z8 l0 i1).f2.length : Int) := by unfold knC; rw [if_pos ⟨h25, hr⟩]
  have p1 : decide (0 ≤ i1) = true := dT hr.1
  have p2 : decide (i1 < a1) = true := dT hr.2
  have p3 : (0 ≤ i1) = True := eq_true hr.1
  have p4 : (i1 < (l0.length : Int)) = True := eq_true (by have := HAT.out; omega)
  obtain ⟨ad2, Q1, m1, Q2, m2, Q4, m4, eA, y0, y1, y2, y3, y4, _, _, _, _, _, _⟩ := xW (Kd.zK HR0.out HB.out) i1 hr.1 (by have := HAT.out; omega)
  obtain rfl : ad = ad2 := (by injection eA)
  clear h25 hr
  rw [kA, kB, kC] at HJ
  clear kA kB kC
  rcases Bool.eq_false_or_eq_true (thR f1 i1 0 a1 (z8 l0 a1).f3 ((z8 l0 a1).f4.length : Int)) with e1 | e1 <;> rcases Bool.eq_false_or_eq_true (thR f2 i2 ((z8 l0 i1).f1.length : Int) a1 (z8 l0 a1).f3 ((z8 l0 a1).f4.length : Int)) with e2 | e2 <;> rcases Bool.eq_false_or_eq_true (thR f3 i3 ((z8 l0 i1).f2.length : Int) a1 (z8 l0 a1).f3 ((z8 l0 a1).f4.length : Int)) with e3 | e3 <;> rw [e1, e2, e3] at HJ
  all_goals (go_upto_region 9 with (fail))
  all_goals (go_quiet (fail))
  all_goals (have hb := zd (Below.refl w2.heap.size w2) nq; generalize w2.drewN nq = w4 at hb ⊢; replace HB := aS (bs_ HB.out hb); replace BX := aS (zf BX.out hb); replace BF := aS (zf BF.out hb); replace BR := aS (zf BR.out hb); clear hb x0 x1 x2 x3 x4 x5 x6 x7 g0 g1 g2 g3 g4 r0 r1 r2 r3 r4; obtain ⟨x0, x1, x2, x3, x4, x5, x6, x7⟩ := xo BX.out; obtain ⟨g0, g1, g2, g3, g4⟩ := yL BF.out; obtain ⟨r0, r1, r2, r3, r4⟩ := yL BR.out)
  all_goals (go_wp2_with (go_at_call 100; refine (z15 _ _ _ _ _ _ _ _ _ _ _ _ _ _ _ _).mono ?_; rintro e w3 ⟨rfl, hb⟩; replace HB := aS (bs_ HB.out hb); replace BX := aS (zf BX.out hb); replace BF := aS (zf BF.out hb); replace BR := aS (zf BR.out hb); clear hb x0 x1 x2 x3 x4 x5 x6 x7 g0 g1 g2 g3 g4 r0 r1 r2 r3 r4; obtain ⟨x0, x1, x2, x3, x4, x5, x6, x7⟩ := xo BX.out; obtain ⟨g0, g1, g2, g3, g4⟩ := yL BF.out; obtain ⟨r0, r1, r2, r3, r4⟩ := yL BR.out))
  all_goals (go_ret; exact ⟨by have h9 := HJ.out; rw [← h9]; rfl, HB.out⟩)
 ·have kB : knB l0 a1 i0 i1 = 0 := by unfold knB; rw [if_neg (fun h => hr h.2)]
  have kC : knC l0 a1 i0 i1 = 0 := by unfold knC; rw [if_neg (fun h => hr h.2)]
  clear h25
  by_cases h0 : 0 ≤ i1
  ·have p1 : decide (0 ≤ i1) = true := dT h0
   have p2 : decide (i1 < a1) = false := dF (fun h => hr ⟨h0, h⟩)
   clear h0 hr
   rw [kA, kB, kC] at HJ
   clear kA kB kC
   rcases Bool.eq_false_or_eq_true (thR f1 i1 0 a1 (z8 l0 a1).f3 ((z8 l0 a1).f4.length : Int)) with e1 | e1 <;> rcases Bool.eq_false_or_eq_true (thR f2 i2 0 a1 (z8 l0 a1).f3 ((z8 l0 a1).f4.length : Int)) with e2 | e2 <;> rcases Bool.eq_false_or_eq_true (thR f3 i3 0 a1 (z8 l0 a1).f3 ((z8 l0 a1).f4.length : Int)) with e3 | e3 <;> rw [e1, e2, e3] at HJ
   all_goals (go_wp2_with (go_at_call 100; refine (z15 _ _ _ _ _ _ _ _ _ _ _ _ _ _ _ _).mono ?_; rintro e w3 ⟨rfl, hb⟩; replace HB := aS (bs_ HB.out hb); replace BX := aS (zf BX.out hb); replace BF := aS (zf BF.out hb); replace BR := aS (zf BR.out hb); clear hb x0 x1 x2 x3 x4 x5 x6 x7 g0 g1 g2 g3 g4 r0 r1 r2 r3 r4; obtain ⟨x0, x1, x2, x3, x4, x5, x6, x7⟩ := xo BX.out; obtain ⟨g0, g1, g2, g3, g4⟩ := yL BF.out; obtain ⟨r0, r1, r2, r3, r4⟩ := yL BR.out))
   all_goals (go_ret; exact ⟨by have h9 := HJ.out; rw [← h9]; rfl, HB.out⟩)
  ·have p1 : decide (0 ≤ i1) = false := dF h0
   clear h0 hr
   rw [kA, kB, kC] at HJ
   clear kA kB kC
   rcases Bool.eq_false_or_eq_true (thR f1 i1 0 a1 (z8 l0 a1).f3 ((z8 l0 a1).f4.length : Int)) with e1 | e1 <;> rcases Bool.eq_false_or_eq_true (thR f2 i2 0 a1 (z8 l0 a1).f3 ((z8 l0 a1).f4.length : Int)) with e2 | e2 <;> rcases Bool.eq_false_or_eq_true (thR f3 i3 0 a1 (z8 l0 a1).f3 ((z8 l0 a1).f4.length : Int)) with e3 | e3 <;> rw [e1, e2, e3] at HJ
   all_goals (go_wp2_with (go_at_call 100; refine (z15 _ _ _ _ _ _ _ _ _ _ _ _ _ _ _ _).mono ?_; rintro e w3 ⟨rfl, hb⟩; replace HB := aS (bs_ HB.out hb); replace BX := aS (zf BX.out hb); replace BF := aS (zf BF.out hb); replace BR := aS (zf BR.out hb); clear hb x0 x1 x2 x3 x4 x5 x6 x7 g0 g1 g2 g3 g4 r0 r1 r2 r3 r4; obtain ⟨x0, x1, x2, x3, x4, x5, x6, x7⟩ := xo BX.out; obtain ⟨g0, g1, g2, g3, g4⟩ := yL BF.out; obtain ⟨r0, r1, r2, r3, r4⟩ := yL BR.out))
   all_goals (go_ret; exact ⟨by have h9 := HJ.out; rw [← h9]; rfl, HB.out⟩)
end Go.Proofs.QP

