import Derived.Test.YtbkknoipgmlcmaaGreatDoorQSXZ
import Derived.Test.YtbkknoipgmlcmaaGreatDoorQSP0
import Derived.Test.YtbkknoipgmlcmaaGreatDoorQSHItoa
import Derived.Test.YtbkknoipgmlcmaaGreatDoorQSG
namespace Go.Proofs.YtbkknoipgmlcmaaGreatDoor.P
open Go.RowKit Go.Proofs.YtbkknoipgmlcmaaGreatDoorW.PrintWords Go.Proofs.YtbkknoipgmlcmaaGreatDoorW.PrintLast Go.Proofs.YtbkknoipgmlcmaaGreatDoorW.PrintMore
open Go.Proofs.FX
attribute [local go_sem] cell_twice le_add_cast
attribute [local go_sem] max2_int min2_int max_two min_two max_three min_three max_four min_four
set_option linter.unusedVariables false
set_option linter.unusedSimpArgs false
def shape_IsType_1.f (a0 : Int) : Option (Bool) := if a0 < 1 then (some true) else (some (decide (a0 > 8)))
set_option maxHeartbeats 8000000 in
set_option maxRecDepth 100000 in
theorem shape_IsType_1.calls (a0 : Int) (r : Bool) (w : World) (h : shape_IsType_1.f a0 = some r) :
  Calls Tryz.prog 174 #[.int .i64 a0] w fun e w' => e = .returned (.bool r) ∧ Drawn0 w w' := by
 have H : (if a0 < 1 then (some true) else (some (decide (a0 > 8)))) = some r := h
 clear h
 by_cases c2 : a0 < 1
 ·rw [if_pos c2] at H
  have c2b0 : decide (a0 < 1) = true := decide_eq_true c2
  clear c2
  obtain rfl := Option.some.inj H
  go_enter Tryz.func174, Tryz.ntmps174
  go_wp2
  go_ret
  exact ⟨by first | rfl | (simp; done) | (simp [*]; done), by repeat (first | exact Drawn0.refl _ | apply Drawn0.step)⟩
 ·rw [if_neg c2] at H
  have c2b0 : decide (a0 < 1) = false := decide_eq_false c2
  clear c2
  obtain rfl := Option.some.inj H
  go_enter Tryz.func174, Tryz.ntmps174
  go_wp2
  go_ret
  exact ⟨by first | rfl | (simp; done) | (simp [*]; done), by repeat (first | exact Drawn0.refl _ | apply Drawn0.step)⟩
def slices_IndexFunc_int_int_at_shape_IsType_1.l0 : Nat → List Int → Int → Int → Option (Int)
 | 0, _, _, _ => none
 | k + 1, x0, x7, x8 => if x8 < x7 then (if 0 ≤ x8 then (if x8 < (x0.length : Int) then ((shape_IsType_1.f (rd x0 x8)).bind fun t227 => (if t227 = true then (some x8) else (slices_IndexFunc_int_int_at_shape_IsType_1.l0 k x0 x7 (wrap64 (x8 + 1))))) else (none)) else (none)) else (some (-1))
def slices_IndexFunc_int_int_at_shape_IsType_1.f (k : Nat) (l0 : List Int)  : Option (Int) := slices_IndexFunc_int_int_at_shape_IsType_1.l0 k l0 (l0.length : Int) 0
set_option maxHeartbeats 8000000 in
set_option maxRecDepth 100000 in
theorem slices_IndexFunc_int_int_at_shape_IsType_1.calls (k : Nat) (A0 : Option Addr) (c0 : Nat) (l0 : List Int)  (r : Int) (w : World) (hr0 : Kd.C (Kd.int .i64) w A0 l0.length l0) (hc0 : l0.length ≤ c0) (h : slices_IndexFunc_int_int_at_shape_IsType_1.f k l0 = some r) :
  Calls Tryz.prog 210 #[.slice A0 l0.length c0, .func (.func 174) #[] #[]] w fun e w' => e = .returned (.int .i64 r) ∧ Drawn0 w w' := by
 have HR0 := Aside0.mk hr0
 have HC0 := Aside0.mk hc0
 clear hr0 hc0
 have H : (slices_IndexFunc_int_int_at_shape_IsType_1.l0 k l0 (l0.length : Int) 0) = some r := h
 clear h
 have H' := Aside0.mk H
 clear H
 go_enter Tryz.func210, Tryz.ntmps210
 go_wp2
 go_loopg [8] k (fun kq v8 w' => ∃ (x8_1 : Int), v8 = .int .i64 x8_1 ∧ Aside0 (slices_IndexFunc_int_int_at_shape_IsType_1.l0 kq l0 (l0.length : Int) x8_1 = some r) ∧ Aside0 (kq ≤ k) ∧ Drawn0 w w')
 case atStart => exact ⟨(0), rs, H', ⟨Nat.le_refl _⟩, by repeat (first | exact Drawn0.refl _ | apply Drawn0.step)⟩
 case round =>
  clear H'
  (try clear p2)
  obtain ⟨x8_1, rfl, HA, HK1, ⟨m1, rfl⟩⟩ := hrel
  cases gk with
  | zero => exact absurd HA.out (by simp [slices_IndexFunc_int_int_at_shape_IsType_1.l0])
  | succ k1 =>
   have H := HA.out
   clear HA
   simp only [slices_IndexFunc_int_int_at_shape_IsType_1.l0] at H
   by_cases c3 : x8_1 < (l0.length : Int)
   ·rw [if_pos c3] at H
    have c3b0 : decide (x8_1 < (l0.length : Int)) = true := decide_eq_true c3
    clear c3
    by_cases c4 : 0 ≤ x8_1
    ·rw [if_pos c4] at H
     have c4b0 : decide (0 ≤ x8_1) = true := decide_eq_true c4
     clear c4
     by_cases c5 : x8_1 < (l0.length : Int)
     ·rw [if_pos c5] at H
      have c5b0 : decide (x8_1 < (l0.length : Int)) = true := decide_eq_true c5
      clear c5
      replace H := Option.bind_eq_some_iff.mp H
      obtain ⟨t227, A60, H⟩ := H
      (try dsimp only at H)
      have A6 := Aside0.mk A60
      clear A60
      by_cases c7 : t227 = true
      ·subst c7
       have H1 : (some x8_1) = some r := by rw [if_pos rfl] at H; exact H
       clear H
       have H := H1
       clear H1
       obtain rfl := Option.some.inj H
       have p226 : 0 ≤ (x8_1 : Int) := oa
       have q226 : x8_1 < (l0.length : Int) := oa
       obtain ⟨ad226, e226, hx226_0⟩ := Kd.at_int HR0.out x8_1 p226 q226
       cases e226
       replace p226 := eq_true p226
       replace q226 := eq_true q226
       go_wp2_with (first | (go_at_call 174; (with_reducible refine (shape_IsType_1.calls (rd l0 x8_1) true _ A6.out).mono ?_); rintro e w' ⟨rfl, ⟨nd, rfl⟩⟩))
       go_ret
       exact ⟨by first | rfl | (simp; done) | (simp [*]; done), by repeat (first | exact Drawn0.refl _ | apply Drawn0.step)⟩
      ·replace c7 := Bool.eq_false_iff.mpr c7
       subst c7
       have H1 : (slices_IndexFunc_int_int_at_shape_IsType_1.l0 k1 l0 (l0.length : Int) (wrap64 (x8_1 + 1))) = some r := by rw [if_neg (show ¬ (false = true) by decide)] at H; exact H
       clear H
       have H := H1
       clear H1
       have H' := Aside0.mk H
       clear H
       have p226 : 0 ≤ (x8_1 : Int) := oa
       have q226 : x8_1 < (l0.length : Int) := oa
       obtain ⟨ad226, e226, hx226_0⟩ := Kd.at_int HR0.out x8_1 p226 q226
       cases e226
       replace p226 := eq_true p226
       replace q226 := eq_true q226
       go_wp2_with (first | (go_at_call 174; (with_reducible refine (shape_IsType_1.calls (rd l0 x8_1) false _ A6.out).mono ?_); rintro e w' ⟨rfl, ⟨nd, rfl⟩⟩))
       go_roundg k1
       case measure => have := HK1.out; omega
       case rel => exact ⟨(wrap64 (x8_1 + 1)), rs, H', ⟨by have := HK1.out; omega⟩, by repeat (first | exact Drawn0.refl _ | apply Drawn0.step)⟩
     ·rw [if_neg c5] at H
      exact absurd H (by simp)
    ·rw [if_neg c4] at H
     exact absurd H (by simp)
   ·rw [if_neg c3] at H
    have c3b0 : decide (x8_1 < (l0.length : Int)) = false := decide_eq_false c3
    clear c3
    obtain rfl := Option.some.inj H
    go_wp2
    go_ret
    exact ⟨by first | rfl | (simp; done) | (simp [*]; done), by repeat (first | exact Drawn0.refl _ | apply Drawn0.step)⟩
def slices_ContainsFunc_int_int_at_shape_IsType_1.f (k : Nat) (l0 : List Int)  : Option (Bool) := (slices_IndexFunc_int_int_at_shape_IsType_1.f k l0).bind fun t228 => (some (decide (t228 ≥ 0)))
set_option maxHeartbeats 8000000 in
set_option maxRecDepth 100000 in
theorem slices_ContainsFunc_int_int_at_shape_IsType_1.calls (k : Nat) (A0 : Option Addr) (c0 : Nat) (l0 : List Int)  (r : Bool) (w : World) (hr0 : Kd.C (Kd.int .i64) w A0 l0.length l0) (hc0 : l0.length ≤ c0) (h : slices_ContainsFunc_int_int_at_shape_IsType_1.f k l0 = some r) :
  Calls Tryz.prog 173 #[.slice A0 l0.length c0, .func (.func 174) #[] #[]] w fun e w' => e = .returned (.bool r) ∧ Drawn0 w w' := by
 have HR0 := Aside0.mk hr0
 have HC0 := Aside0.mk hc0
 clear hr0 hc0
 have H : ((slices_IndexFunc_int_int_at_shape_IsType_1.f k l0).bind fun t228 => (some (decide (t228 ≥ 0)))) = some r := h
 clear h
 replace H := Option.bind_eq_some_iff.mp H
 obtain ⟨t228, A30, H⟩ := H
 (try dsimp only at H)
 have A3 := Aside0.mk A30
 clear A30
 obtain rfl := Option.some.inj H
 go_enter Tryz.func173, Tryz.ntmps173
 go_wp2_with (first | ((with_reducible refine gate_callee (f := 210) rfl ?_); refine gl 7 Tryz.func210 #[.slice A0 l0.length c0, .func (.func 174) #[] #[]] ?_; (with_reducible refine (slices_IndexFunc_int_int_at_shape_IsType_1.calls k _ _ l0  t228 _ ?side1 ?side2 A3.out).mono ?_); (case side1 => repeat (first | exact HR0.out | (with_reducible refine Kd.C_alloc ?_ _) | (with_reducible refine Kd.C_drewN ?_ _) | (with_reducible refine Kd.C_drew ?_))); (case side2 => exact HC0.out); rintro e w' ⟨rfl, ⟨nd, rfl⟩⟩; refine ⟨_, rfl, ?_⟩))
 go_ret
 exact ⟨by first | rfl | (simp; done) | (simp [*]; done), by repeat (first | exact Drawn0.refl _ | apply Drawn0.step)⟩
def shape_IsType.j0 : Nat → Bool → Int → Bool → Int → List Int → Option (Bool)
 | 0, _, _, _, _, _ => none
 | k + 1, x3, x8, x9, x230000, x230001 => if x9 = true then (if x3 = true then (some false) else (some (decide ((x230001.length : Int) ≤ 3)))) else (if x8 = 3 then (if x3 = true then (some false) else (some ((x230001.length : Int) == 1))) else (some false))
def shape_IsType.f (k : Nat) (a0_0 : Int) (l0_1 : List Int) : Option (Bool) := (slices_ContainsFunc_int_int_at_shape_IsType_1.f k l0_1).bind fun t230 => (if a0_0 = 1 then (shape_IsType.j0 k t230 a0_0 (a0_0 == 1) a0_0 l0_1) else (shape_IsType.j0 k t230 a0_0 (a0_0 == 2) a0_0 l0_1))
set_option maxHeartbeats 8000000 in
set_option maxRecDepth 100000 in
theorem shape_IsType.calls (k : Nat) (a0_0 : Int) (A0_1 : Option Addr) (c0_1 : Nat) (l0_1 : List Int) (r : Bool) (w : World) (hr0_1 : Kd.C (Kd.int .i64) w A0_1 l0_1.length l0_1) (hc0_1 : l0_1.length ≤ c0_1) (h : shape_IsType.f k a0_0 l0_1 = some r) :
  Calls Tryz.prog 139 #[.agg #[.int .i64 a0_0, .slice A0_1 l0_1.length c0_1]] w fun e w' => e = .returned (.bool r) ∧ Below w.heap.size w w' := by
 have hu115 := Tryz.underlying115
 have HR0_1 := Aside0.mk hr0_1
 have HC0_1 := Aside0.mk hc0_1
 clear hr0_1 hc0_1
 have HB := Aside0.mk (Below.refl w.heap.size w)
 have H : ((slices_ContainsFunc_int_int_at_shape_IsType_1.f k l0_1).bind fun t230 => (if a0_0 = 1 then (shape_IsType.j0 k t230 a0_0 (a0_0 == 1) a0_0 l0_1) else (shape_IsType.j0 k t230 a0_0 (a0_0 == 2) a0_0 l0_1))) = some r := h
 clear h
 replace H := Option.bind_eq_some_iff.mp H
 obtain ⟨t230, A20, H⟩ := H
 (try dsimp only at H)
 have A2 := Aside0.mk A20
 clear A20
 have HC3 := Aside0.mk H
 clear H
 go_enter Tryz.func139, Tryz.ntmps139
 go_upto_if 9 with (first | ((with_reducible refine gate_dst (N := 1) rfl ?_); (try (refine gate_guard (by rfl) ?_; dsimp only)); refine bx (N := 1) (cs := #[.int .i64 a0_0, .slice A0_1 l0_1.length c0_1]) (t := 115) ?_; intro gb229 hg w4 hbox hb; have n0_ := Aside0.mk (below_step (bl HB) hb); have n1_ := Aside0.mk (hbox); have n2_ := (gz hg HB : Aside0 (w.heap.size ≤ gb229)); have n3_ := (gz hg HB : Aside0 (w.heap.size ≤ gb229)); clear HB; have HB := n0_; have BK229 := n1_; have GW229 := n2_; have GE229 := n3_; clear n0_ n1_ n2_ n3_; clear hb hbox hg; have hcz5_0 := blk_cell BK229.out 0; have hcz5_1 := blk_cell BK229.out 1; have hfz5_0 := blk_frozen BK229.out 0; have hfz5_1 := blk_frozen BK229.out 1) | ((with_reducible refine gate_callee (f := 173) rfl ?_); refine gl 6 Tryz.func173 #[.slice A0_1 l0_1.length c0_1, .func (.func 174) #[] #[]] ?_; (with_reducible refine (slices_ContainsFunc_int_int_at_shape_IsType_1.calls k _ _ l0_1  t230 _ ?side1 ?side2 A2.out).mono ?_); (case side1 => exact cb HR0_1 HB); (case side2 => exact HC0_1.out); rintro e w' ⟨rfl, ⟨nd, rfl⟩⟩; refine ⟨_, rfl, ?_⟩))
 (try simp only [Act.put, List.setIfInBounds_toArray, List.set_cons_zero, List.set_cons_succ])
 go_cut [9] (fun v9 wc => ∃ (kq : Nat) (x9_2 : Bool), v9 = .bool x9_2 ∧ Aside0 (shape_IsType.j0 kq t230 a0_0 x9_2 a0_0 l0_1 = some r) ∧ Aside0 (kq ≤ k) ∧ Aside0 (wc.heap[gb229]? = some (.cells #[.int .i64 a0_0, (.slice A0_1 l0_1.length c0_1)] 115 (0, 0))) ∧ Aside0 (Below w.heap.size w wc))
 case first =>
  have H := HC3.out
  clear HC3
  by_cases c6 : a0_0 = 1
  ·rw [if_pos c6] at H
   have c6b0 : (a0_0 == 1) = true := beq_iff_eq.mpr c6
   have c6b1 : (a0_0 != 1) = false := bne_eq_false_iff_eq.mpr c6
   clear c6
   (first | rw [c6b0] | (simp only [i64_w, i32_w]; rw [c6b0]) | skip)
   have H' := Aside0.mk H
   clear H
   go_wp2
   go_meet
   case rel => exact ⟨_, ((a0_0 == 1)), rs, H', ⟨by first | omega | exact Nat.le_refl _⟩, ⟨bk BK229⟩, ⟨bl HB⟩⟩
  ·rw [if_neg c6] at H
   have c6b0 : (a0_0 == 1) = false := beq_eq_false_iff_ne.mpr c6
   have c6b1 : (a0_0 != 1) = true := bne_iff_ne.mpr c6
   (first | rw [c6b0] | (simp only [i64_w, i32_w]; rw [c6b0]) | skip)
   have H' := Aside0.mk H
   clear H
   go_wp2
   go_meet
   case rel => exact ⟨_, ((a0_0 == 2)), rs, H', ⟨by first | omega | exact Nat.le_refl _⟩, ⟨bk BK229⟩, ⟨bl HB⟩⟩
 case rest =>
  clear HC3
  (try clear c1); (try clear p2); (try clear c6); (try clear c6b0); (try clear c6b1); (try clear hcz5_0); (try clear hcz5_1); (try clear hfz5_0); (try clear hfz5_1)
  obtain ⟨kq, x9_2, rfl, HA, HJ2, BK229, HB⟩ := hcut
  cases kq with
  | zero => exact absurd HA.out (by simp [shape_IsType.j0])
  | succ kj2 =>
   have H := HA.out
   clear HA
   simp only [shape_IsType.j0] at H
   by_cases c7 : x9_2 = true
   ·subst c7
    have H1 : (if t230 = true then (some false) else (some (decide ((l0_1.length : Int) ≤ 3)))) = some r := by rw [if_pos rfl] at H; exact H
    clear H
    have H := H1
    clear H1
    by_cases c8 : t230 = true
    ·subst c8
     have H1 : (some false) = some r := by rw [if_pos rfl] at H; exact H
     clear H
     have H := H1
     clear H1
     obtain rfl := Option.some.inj H
     go_wp2
     go_ret
     exact ⟨re, bl HB⟩
    ·replace c8 := Bool.eq_false_iff.mpr c8
     subst c8
     have H1 : (some (decide ((l0_1.length : Int) ≤ 3))) = some r := by rw [if_neg (show ¬ (false = true) by decide)] at H; exact H
     clear H
     have H := H1
     clear H1
     obtain rfl := Option.some.inj H
     have hcz9_0 := blk_cell BK229.out 0
     have hcz9_1 := blk_cell BK229.out 1
     have hfz9_0 := blk_frozen BK229.out 0
     have hfz9_1 := blk_frozen BK229.out 1
     go_wp2
     go_ret
     exact ⟨re, bl HB⟩
   ·replace c7 := Bool.eq_false_iff.mpr c7
    subst c7
    have H1 : (if a0_0 = 3 then (if t230 = true then (some false) else (some ((l0_1.length : Int) == 1))) else (some false)) = some r := by rw [if_neg (show ¬ (false = true) by decide)] at H; exact H
    clear H
    have H := H1
    clear H1
    by_cases c10 : a0_0 = 3
    ·rw [if_pos c10] at H
     have c10b0 : (a0_0 == 3) = true := beq_iff_eq.mpr c10
     have c10b1 : (a0_0 != 3) = false := bne_eq_false_iff_eq.mpr c10
     clear c10
     by_cases c11 : t230 = true
     ·subst c11
      have H1 : (some false) = some r := by rw [if_pos rfl] at H; exact H
      clear H
      have H := H1
      clear H1
      obtain rfl := Option.some.inj H
      go_wp2
      go_ret
      exact ⟨re, bl HB⟩
     ·replace c11 := Bool.eq_false_iff.mpr c11
      subst c11
      have H1 : (some ((l0_1.length : Int) == 1)) = some r := by rw [if_neg (show ¬ (false = true) by decide)] at H; exact H
      clear H
      have H := H1
      clear H1
      obtain rfl := Option.some.inj H
      have hcz12_0 := blk_cell BK229.out 0
      have hcz12_1 := blk_cell BK229.out 1
      have hfz12_0 := blk_frozen BK229.out 0
      have hfz12_1 := blk_frozen BK229.out 1
      go_wp2
      go_ret
      exact ⟨re, bl HB⟩
    ·rw [if_neg c10] at H
     have c10b0 : (a0_0 == 3) = false := beq_eq_false_iff_ne.mpr c10
     have c10b1 : (a0_0 != 3) = true := bne_iff_ne.mpr c10
     obtain rfl := Option.some.inj H
     go_wp2
     go_ret
     exact ⟨re, bl HB⟩
def shape_Text.l0 : Nat → ByteArray → List Int → Int → Int → Option (ByteArray × Int)
 | 0, _, _, _, _ => none
 | k + 1, x4, x15, x16, x17 => if x17 < x16 then (if 0 ≤ x17 then (if x17 < (x15.length : Int) then ((strconv_Itoa.f (rd x15 x17)).bind fun t234 => (if 1 + t234.size ≤ 9223372036854775807 then (if ((⟨#[91]⟩ : ByteArray) ++ t234).size + 1 ≤ 9223372036854775807 then (if x4.size + (((⟨#[91]⟩ : ByteArray) ++ t234) ++ (⟨#[93]⟩ : ByteArray)).size ≤ 9223372036854775807 then (shape_Text.l0 k (x4 ++ (((⟨#[91]⟩ : ByteArray) ++ t234) ++ (⟨#[93]⟩ : ByteArray))) x15 x16 (wrap64 (x17 + 1))) else (none)) else (none)) else (none))) else (none)) else (none)) else (some (x4, 0))
def shape_Text.f (k : Nat) (a0_0 : Int) (l0_1 : List Int) : Option (ByteArray × Int) := (shape_IsType.f k a0_0 l0_1).bind fun t232 => (if t232 = true then (if 0 ≤ a0_0 then (if a0_0 < 4 then (shape_Text.l0 k (rdOf ByteArray.empty kindsT a0_0) l0_1 (l0_1.length : Int) 0) else (none)) else (none)) else (some ((⟨#[]⟩ : ByteArray), 5)))
set_option maxHeartbeats 8000000 in
set_option maxRecDepth 100000 in
theorem shape_Text.calls (k : Nat) (a0_0 : Int) (A0_1 : Option Addr) (c0_1 : Nat) (l0_1 : List Int) (r1 : ByteArray) (r2 : Int) (w : World) (hG : GW w) (hr0_1 : Kd.C (Kd.int .i64) w A0_1 l0_1.length l0_1) (hc0_1 : l0_1.length ≤ c0_1) (h : shape_Text.f k a0_0 l0_1 = some (r1, r2)) :
  Calls Tryz.prog 104 #[.agg #[.int .i64 a0_0, .slice A0_1 l0_1.length c0_1]] w fun e w' => e = .returned (.tuple #[.string r1, .int .i64 r2]) ∧ Below w.heap.size w w' := by
 have hu115 := Tryz.underlying115
 have HR0_1 := Aside0.mk hr0_1
 have HC0_1 := Aside0.mk hc0_1
 clear hr0_1 hc0_1
 have HG := Aside0.mk hG
 clear hG
 have HB := Aside0.mk (Below.refl w.heap.size w)
 have H : ((shape_IsType.f k a0_0 l0_1).bind fun t232 => (if t232 = true then (if 0 ≤ a0_0 then (if a0_0 < 4 then (shape_Text.l0 k (rdOf ByteArray.empty kindsT a0_0) l0_1 (l0_1.length : Int) 0) else (none)) else (none)) else (some ((⟨#[]⟩ : ByteArray), 5)))) = some (r1, r2) := h
 clear h
 replace H := Option.bind_eq_some_iff.mp H
 obtain ⟨t232, A20, H⟩ := H
 (try dsimp only at H)
 have A2 := Aside0.mk A20
 clear A20
 by_cases c3 : t232 = true
 ·subst c3
  have H1 : (if 0 ≤ a0_0 then (if a0_0 < 4 then (shape_Text.l0 k (rdOf ByteArray.empty kindsT a0_0) l0_1 (l0_1.length : Int) 0) else (none)) else (none)) = some (r1, r2) := by rw [if_pos rfl] at H; exact H
  clear H
  have H := H1
  clear H1
  by_cases c4 : 0 ≤ a0_0
  ·rw [if_pos c4] at H
   have c4b0 : decide (0 ≤ a0_0) = true := decide_eq_true c4
   clear c4
   by_cases c5 : a0_0 < 4
   ·rw [if_pos c5] at H
    have c5b0 : decide (a0_0 < 4) = true := decide_eq_true c5
    clear c5
    have H' := Aside0.mk H
    clear H
    go_enter Tryz.func104, Tryz.ntmps104
    go_wp2_with (first | ((with_reducible refine gate_dst (N := 1) rfl ?_); refine bx (N := 1) (cs := #[.int .i64 a0_0, .slice A0_1 l0_1.length c0_1]) (t := 115) ?_; intro gb231 hg w6 hbox hb; have BK231 := Aside0.mk (hbox); have GW231 := (gz hg HB : Aside0 (w.heap.size ≤ gb231)); have GE231 := (gz hg HB : Aside0 (w.heap.size ≤ gb231)); replace HB := Aside0.mk (below_step (bl HB) hb); clear hb hbox hg; have hcz7_0 := blk_cell BK231.out 0; have hcz7_1 := blk_cell BK231.out 1; have hfz7_0 := blk_frozen BK231.out 0; have hfz7_1 := blk_frozen BK231.out 1) | ((with_reducible refine gate_callee (f := 139) rfl ?_); refine gl 8 Tryz.func139 #[.agg #[.int .i64 a0_0, .slice A0_1 l0_1.length c0_1]] ?_; (with_reducible refine (shape_IsType.calls k a0_0 _ _ l0_1 true _ ?side1 ?side2 A2.out).mono ?_); (case side1 => exact cb HR0_1 HB); (case side2 => exact HC0_1.out); rintro e w8 ⟨rfl, hb⟩; refine ⟨_, rfl, ?_⟩; replace BK231 := Aside0.mk (blk_below (g := gb231) (o := .cells #[.int .i64 a0_0, .slice A0_1 l0_1.length c0_1] 115 (0, 0)) (bk BK231) hb); replace HB := Aside0.mk (below_step (bl HB) hb); clear hb; have hcz9_0 := blk_cell BK231.out 0; have hcz9_1 := blk_cell BK231.out 1; have hfz9_0 := blk_frozen BK231.out 0; have hfz9_1 := blk_frozen BK231.out 1; have pgt10 : 0 ≤ (a0_0 : Int) := oa; have qgt10 : (a0_0 : Int) < 4 := oa; have hgt10 := gtab1 (GW.below HG.out (HB.out)) pgt10 qgt10; replace pgt10 := eq_true pgt10; replace qgt10 := eq_true qgt10))
    go_loopg [4, 17] k (fun kq v4 v17 w' => ∃ (x4_1 : ByteArray) (x17_1 : Int), v4 = .string x4_1 ∧ v17 = .int .i64 x17_1 ∧ Aside0 (shape_Text.l0 kq x4_1 l0_1 (l0_1.length : Int) x17_1 = some (r1, r2)) ∧ Aside0 (kq ≤ k) ∧ Aside0 (w'.heap[gb231]? = some (.cells #[.int .i64 a0_0, (.slice A0_1 l0_1.length c0_1)] 115 (0, 0))) ∧ Aside0 (Below w.heap.size w w'))
    case atStart => exact ⟨(rdOf ByteArray.empty kindsT a0_0), (0), rs, rs, H', ⟨Nat.le_refl _⟩, ⟨bk BK231⟩, ⟨bl HB⟩⟩
    case round =>
     clear H'
     (try clear c1); (try clear p2); (try clear c3); (try clear c4); (try clear c4b0); (try clear c5); (try clear c5b0); (try clear c10); (try clear hcz7_0); (try clear hcz7_1); (try clear hcz9_0); (try clear hcz9_1); (try clear hfz7_0); (try clear hfz7_1); (try clear hfz9_0); (try clear hfz9_1)
     obtain ⟨x4_1, x17_1, rfl, rfl, HA, HK1, BK231, HB⟩ := hrel
     cases gk with
     | zero => exact absurd HA.out (by simp [shape_Text.l0])
     | succ k1 =>
      have H := HA.out
      clear HA
      simp only [shape_Text.l0] at H
      by_cases c11 : x17_1 < (l0_1.length : Int)
      ·rw [if_pos c11] at H
       have c11b0 : decide (x17_1 < (l0_1.length : Int)) = true := decide_eq_true c11
       clear c11
       by_cases c12 : 0 ≤ x17_1
       ·rw [if_pos c12] at H
        have c12b0 : decide (0 ≤ x17_1) = true := decide_eq_true c12
        clear c12
        by_cases c13 : x17_1 < (l0_1.length : Int)
        ·rw [if_pos c13] at H
         have c13b0 : decide (x17_1 < (l0_1.length : Int)) = true := decide_eq_true c13
         clear c13
         replace H := Option.bind_eq_some_iff.mp H
         obtain ⟨t234, A140, H⟩ := H
         (try dsimp only at H)
         have A14 := Aside0.mk A140
         clear A140
         by_cases c15 : 1 + t234.size ≤ 9223372036854775807
         ·rw [if_pos c15] at H
          have c15b0 := eq_true c15
          have c15b1 : decide (1 + t234.size ≤ 9223372036854775807) = true := decide_eq_true c15
          try have c15b2 : (9223372036854775807 < 1 + t234.size) = False := eq_false (Nat.not_lt.2 c15)
          by_cases c16 : ((⟨#[91]⟩ : ByteArray) ++ t234).size + 1 ≤ 9223372036854775807
          ·rw [if_pos c16] at H
           have c16b0 := eq_true c16
           have c16b1 : decide (((⟨#[91]⟩ : ByteArray) ++ t234).size + 1 ≤ 9223372036854775807) = true := decide_eq_true c16
           try have c16b2 : (9223372036854775807 < ((⟨#[91]⟩ : ByteArray) ++ t234).size + 1) = False := eq_false (Nat.not_lt.2 c16)
           have c16b3 : (9223372036854775807 < 1 + t234.size + 1) = False := eq_false (by have h_ := c16; simp only [ByteArray.size_append, show (⟨#[91]⟩ : ByteArray).size = 1 from rfl] at h_; omega)
           by_cases c17 : x4_1.size + (((⟨#[91]⟩ : ByteArray) ++ t234) ++ (⟨#[93]⟩ : ByteArray)).size ≤ 9223372036854775807
           ·rw [if_pos c17] at H
            have c17b0 := eq_true c17
            have c17b1 : decide (x4_1.size + (((⟨#[91]⟩ : ByteArray) ++ t234) ++ (⟨#[93]⟩ : ByteArray)).size ≤ 9223372036854775807) = true := decide_eq_true c17
            try have c17b2 : (9223372036854775807 < x4_1.size + (((⟨#[91]⟩ : ByteArray) ++ t234) ++ (⟨#[93]⟩ : ByteArray)).size) = False := eq_false (Nat.not_lt.2 c17)
            have c17b3 : (9223372036854775807 < x4_1.size + (1 + t234.size + 1)) = False := eq_false (by have h_ := c17; simp only [ByteArray.size_append, show (⟨#[91]⟩ : ByteArray).size = 1 from rfl, show (⟨#[93]⟩ : ByteArray).size = 1 from rfl] at h_; omega)
            have H' := Aside0.mk H
            clear H
            have p233 : 0 ≤ (x17_1 : Int) := oa
            have q233 : x17_1 < (l0_1.length : Int) := oa
            obtain ⟨ad233, e233, hx233_0⟩ := Kd.at_int HR0_1.out x17_1 p233 q233
            cases e233
            replace hx233_0 := xb HB hx233_0
            replace p233 := eq_true p233
            replace q233 := eq_true q233
            go_wp2_with (first | ((with_reducible refine gate_callee (f := 48) rfl ?_); refine gl 23 Tryz.func48 #[.int .i64 (rd l0_1 x17_1)] ?_; (with_reducible refine (strconv_Itoa.calls (rd l0_1 x17_1) t234 _ A14.out).mono ?_); rintro e w' ⟨rfl, ⟨nd, rfl⟩⟩; refine ⟨_, rfl, ?_⟩))
            go_roundg k1
            case measure => have := HK1.out; omega
            case rel => exact ⟨(x4_1 ++ (((⟨#[91]⟩ : ByteArray) ++ t234) ++ (⟨#[93]⟩ : ByteArray))), (wrap64 (x17_1 + 1)), rs, rs, H', ⟨by have := HK1.out; omega⟩, ⟨bk BK231⟩, ⟨bl HB⟩⟩
           ·rw [if_neg c17] at H
            exact absurd H (by simp)
          ·rw [if_neg c16] at H
           exact absurd H (by simp)
         ·rw [if_neg c15] at H
          exact absurd H (by simp)
        ·rw [if_neg c13] at H
         exact absurd H (by simp)
       ·rw [if_neg c12] at H
        exact absurd H (by simp)
      ·rw [if_neg c11] at H
       have c11b0 : decide (x17_1 < (l0_1.length : Int)) = false := decide_eq_false c11
       clear c11
       simp only [Option.some.injEq, Prod.mk.injEq] at H
       obtain ⟨rfl, rfl⟩ := H
       go_wp2
       go_ret2
       exact ⟨re, bl HB⟩
   ·rw [if_neg c5] at H
    exact absurd H (by simp)
  ·rw [if_neg c4] at H
   exact absurd H (by simp)
 ·replace c3 := Bool.eq_false_iff.mpr c3
  subst c3
  have H1 : (some ((⟨#[]⟩ : ByteArray), 5)) = some (r1, r2) := by rw [if_neg (show ¬ (false = true) by decide)] at H; exact H
  clear H
  have H := H1
  clear H1
  simp only [Option.some.injEq, Prod.mk.injEq] at H
  obtain ⟨rfl, rfl⟩ := H
  go_enter Tryz.func104, Tryz.ntmps104
  go_wp2_with (first | ((with_reducible refine gate_dst (N := 1) rfl ?_); refine bx (N := 1) (cs := #[.int .i64 a0_0, .slice A0_1 l0_1.length c0_1]) (t := 115) ?_; intro gb231 hg w18 hbox hb; have BK231 := Aside0.mk (hbox); have GW231 := (gz hg HB : Aside0 (w.heap.size ≤ gb231)); have GE231 := (gz hg HB : Aside0 (w.heap.size ≤ gb231)); replace HB := Aside0.mk (below_step (bl HB) hb); clear hb hbox hg; have hcz19_0 := blk_cell BK231.out 0; have hcz19_1 := blk_cell BK231.out 1; have hfz19_0 := blk_frozen BK231.out 0; have hfz19_1 := blk_frozen BK231.out 1) | ((with_reducible refine gate_callee (f := 139) rfl ?_); refine gl 8 Tryz.func139 #[.agg #[.int .i64 a0_0, .slice A0_1 l0_1.length c0_1]] ?_; (with_reducible refine (shape_IsType.calls k a0_0 _ _ l0_1 false _ ?side1 ?side2 A2.out).mono ?_); (case side1 => exact cb HR0_1 HB); (case side2 => exact HC0_1.out); rintro e w20 ⟨rfl, hb⟩; refine ⟨_, rfl, ?_⟩; replace BK231 := Aside0.mk (blk_below (g := gb231) (o := .cells #[.int .i64 a0_0, .slice A0_1 l0_1.length c0_1] 115 (0, 0)) (bk BK231) hb); replace HB := Aside0.mk (below_step (bl HB) hb); clear hb))
  go_ret2
  exact ⟨re, bl HB⟩
end Go.Proofs.YtbkknoipgmlcmaaGreatDoor.P

