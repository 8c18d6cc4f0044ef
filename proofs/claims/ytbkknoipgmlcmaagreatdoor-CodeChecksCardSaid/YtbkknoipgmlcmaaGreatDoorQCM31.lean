import Derived.Test.YtbkknoipgmlcmaaGreatDoorQCM30
set_option linter.unusedVariables false
set_option linter.unusedSimpArgs false
set_option maxHeartbeats 8000000
set_option maxRecDepth 100000
namespace Go.Proofs.YtbkknoipgmlcmaaGreatDoor.P
open Go.RowKit Go.Proofs.YtbkknoipgmlcmaaGreatDoorW.PrintWords Go.Proofs.YtbkknoipgmlcmaaGreatDoorW.PrintLast Go.Proofs.YtbkknoipgmlcmaaGreatDoorW.PrintMore
open Go.Proofs.FX
attribute [local go_sem] cell_twice le_add_cast
attribute [local go_sem] max2_int min2_int max_two min_two max_three min_three max_four min_four
def code_list.l0 : Nat → List ByteArray → List (S115) → Int → Int → Option (ByteArray)
 | 0, _, _, _, _ => none
 | k + 1, x3, x8, x9, x10 => if x10 < x9 then (if 0 ≤ x10 then (if x10 < (x8.length : Int) then ((shape_Text.f k ((rd_T115 x8 x10).f0) ((rd_T115 x8 x10).f1)).bind fun bt392 => (if x3.length < 8796093022208 then (code_list.l0 k (x3 ++ [bt392.1]) x8 x9 (wrap64 (x10 + 1))) else (none))) else (none)) else (none)) else ((strings_Join.f x3 (⟨#[44, 32]⟩ : ByteArray)).bind fun t397 => (if 1 + t397.size ≤ 9223372036854775807 then (if ((⟨#[40]⟩ : ByteArray) ++ t397).size + 1 ≤ 9223372036854775807 then (some (((⟨#[40]⟩ : ByteArray) ++ t397) ++ (⟨#[41]⟩ : ByteArray))) else (none)) else (none)))
def code_list.f (k : Nat) (l0 : List (S115)) : Option (ByteArray) := code_list.l0 k ([] : List ByteArray) l0 (l0.length : Int) 0
theorem code_list.calls (k : Nat) (A0 : Option Addr) (c0 : Nat) (l0 : List (S115)) (r : ByteArray) (w : World) (hG : GW w) (hr0 : Kd.C k115 w A0 l0.length l0) (hc0 : l0.length ≤ c0) (h : code_list.f k l0 = some r) :
 Calls Tryz.prog 47 #[.slice A0 l0.length c0] w fun e w' => e = .returned (.string r) ∧ Below w.heap.size w w' := by
 have hu115 := Tryz.underlying115
 have HR0 := aS hr0
 have HC0 := aS hc0
 clear hr0 hc0
 have HG := aS hG
 clear hG
 have HB := aS (Below.refl w.heap.size w)
 have H := h
 unfold code_list.f at H
 clear h
 have H' := aS H
 clear H
 go_enter Tryz.func47, Tryz.ntmps47
 go_wp2
 go_loopg [3, 10] k (fun kq v3 v10 w' => ∃ (x3_1 : List ByteArray) (x10_1 : Int), v10 = .int .i64 x10_1 ∧ Aside0 (code_list.l0 kq x3_1 l0 (l0.length : Int) x10_1 = some r) ∧ Aside0 (kq ≤ k) ∧ Aside0 (Kd.R Kd.string 9 w' w.heap.size (fun _ => True) v3 x3_1) ∧ Aside0 (Below w.heap.size w w'))
 case atStart => exact ⟨(([] : List ByteArray)), (0), rs, H', ⟨Nat.le_refl _⟩, ⟨by first | exact Kd.R_nil _ _ _ _ _ | exact Kd.N_nil _ _ _ _ _ | exact Kd.V_nil _ _ _ _ _ | exact Kd.Q_nil _ _ _ _ _ | exact Kd.S_nil _ _ _ _ _⟩, ⟨bl HB⟩⟩
 case round =>
  clear H'
  obtain ⟨x3_1, x10_1, rfl, HA, HK1, HO_3, HB⟩ := hrel
  cases gk with
  | zero => exact absurd HA.out (by simp [code_list.l0])
  | succ k1 =>
   have H := HA.out
   clear HA
   simp only [code_list.l0] at H
   by_cases c2 : x10_1 < (l0.length : Int)
   focus
    rw [if_pos c2] at H
    have c2b0 := dT c2
    clear c2
    by_cases c3 : 0 ≤ x10_1
    focus
     rw [if_pos c3] at H
     have c3b0 := dT c3
     clear c3
     by_cases c4 : x10_1 < (l0.length : Int)
     focus
      rw [if_pos c4] at H
      have c4b0 := dT c4
      clear c4
      replace H := bS H
      obtain ⟨⟨t392, t393⟩, A50, H⟩ := H
      (try dsimp only at H)
      have A5 := aS A50
      clear A50
      by_cases c6 : x3_1.length < 8796093022208
      focus
       rw [if_pos c6] at H
       have LMc6 := aS c6
       clear c6
       obtain ⟨y394, hy394⟩ : ∃ y_ : List ByteArray, y_ = (x3_1 ++ [t392]) := ⟨_, rfl⟩
       first | replace H := bsB H hy394 | rw [← hy394] at H
       have Ny394 := aS hy394
       clear hy394
       have H' := aS H
       clear H
       have p390 : 0 ≤ (x10_1 : Int) := oa
       have q390 : x10_1 < (l0.length : Int) := oa
       obtain ⟨ad390, A390_1, c390_1, e390, hx390_0, hx390_1, hl390_1, hi390_1⟩ := at_T115 HR0.out x10_1 p390 q390
       cases e390
       replace hx390_0 := xb HB hx390_0
       replace hx390_1 := xb HB hx390_1
       have HR390_1 := aS hi390_1
       have HC390_1 := aS hl390_1
       clear hi390_1 hl390_1
       replace p390 := eq_true p390
       replace q390 := eq_true q390
      rotate_left 1
      focus
       rw [if_neg c6] at H
       cases H
     rotate_left 1
     focus
      rw [if_neg c4] at H
      cases H
    rotate_left 1
    focus
     rw [if_neg c3] at H
     cases H
   rotate_left 1
   focus
    rw [if_neg c2] at H
    have c2b0 := dF c2
    clear c2
    replace H := bS H
    obtain ⟨t397, A110, H⟩ := H
    (try dsimp only at H)
    have A11 := aS A110
    clear A110
    by_cases c12 : 1 + t397.size ≤ 9223372036854775807
    focus
     rw [if_pos c12] at H
     have c12b0 := eq_true c12
     have c12b1 := dT c12
     try have c12b2 : (9223372036854775807 < 1 + t397.size) = False := eq_false (Nat.not_lt.2 c12)
     by_cases c13 : ((⟨#[40]⟩ : ByteArray) ++ t397).size + 1 ≤ 9223372036854775807
     focus
      rw [if_pos c13] at H
      have c13b0 := eq_true c13
      have c13b1 := dT c13
      try have c13b2 : (9223372036854775807 < ((⟨#[40]⟩ : ByteArray) ++ t397).size + 1) = False := eq_false (Nat.not_lt.2 c13)
      have c13b3 : (9223372036854775807 < 1 + t397.size + 1) = False := eq_false (by have h_ := c13; simp only [ByteArray.size_append, show (⟨#[40]⟩ : ByteArray).size = 1 from rfl] at h_; omega)
      obtain rfl := sI H
      obtain ⟨Ao14, co14, eo14⟩ := Kd.R_slice HO_3.out
      subst eo14
     rotate_left 1
     focus
      rw [if_neg c13] at H
      cases H
    rotate_left 1
    focus
     rw [if_neg c12] at H
     cases H
   rotate_left 1
   all_goals (go_wp2_with (first | ((with_reducible refine gate_dst (N := 5) rfl ?_); refine bx (N := 5) (cs := #[.int .i64 0, .slice none 0 0]) (t := 115) ?_; intro gb391 hg wq1 hbox hb; replace HO_3 := aS (Kd.R_below (by exact rA HO_3.out) hb); have BK391 := aS (hbox); have GW391 := (gz hg HB : Aside0 (w.heap.size ≤ gb391)); have GE391 := (gz hg HB : Aside0 (w.heap.size ≤ gb391)); replace HB := aS (bs_ (bl HB) hb); clear hb hbox hg; obtain ⟨_, _, _, _⟩ := cf2 BK391.out) | ((with_reducible refine gate_callee (f := 104) rfl ?_); refine gl 16 Tryz.func104 #[.agg #[.int .i64 ((rd_T115 l0 x10_1).f0), .slice A390_1 ((rd_T115 l0 x10_1).f1).length c390_1]] ?_; (with_reducible refine (shape_Text.calls k1 ((rd_T115 l0 x10_1).f0) _ _ ((rd_T115 l0 x10_1).f1) t392 t393 _ ?side1 ?side2 ?side3 A5.out).mono ?_); (case side1 => exact GW.below HG.out (bl HB)); (case side2 => exact Kd.C_below HR390_1.out (bl HB)); (case side3 => exact HC390_1.out); rintro e wq2 ⟨rfl, hb⟩; refine ⟨_, rfl, ?_⟩; replace HO_3 := aS (Kd.R_below (by exact (Kd.R_mono (rF (Kd.R_types HO_3.out BK391.out (by decide))) (fun _ h_ => h_.1))) hb); replace BK391 := aS (blk_below (g := gb391) (o := .cells #[.int .i64 ((rd_T115 l0 x10_1).f0), .slice A390_1 ((rd_T115 l0 x10_1).f1).length c390_1] 115 (0, 0)) (bp BK391) hb); replace HB := aS (bs_ (bl HB) hb); clear hb) | ((with_reducible refine gate_builtin (b := .append) (xs := #[.tmp 19, .tmp 21]) rfl ?_); at_builtin; refine Kd.R_append Kd.string (w0 := w) w.heap.size rfl (.tmp 19) (.tmp 21) 130 9 (.string ⟨#[]⟩) 16 rfl Tryz.underlying130 info9 rfl (by decide) (by omega) u3 x3_1 t392 [.string t392] (fun _ => True) (fun _ => False) rfl rfl ?aP (fun _ hk => hk.elim) ?aF ?aO ?aB ?aS ?aL ?_; (case aP => exact rfl); (case aB => exact (bl HB)); (case aF => exact (fun _ _ => trivial)); (case aO => exact (by exact rA HO_3.out)); (case aS => exact (below_size (bl HB))); (case aL => have := LMc6.out; omega); intro v395 wq3 ho hb hg hat; rw [← Ny394.out] at ho; replace BK391 := aS (blk_grown (bj BK391) hg (Kd.R_ne HO_3.out BK391.out (by decide))); replace HB := aS (hb); have HO396 := aS (ho); clear HO_3; clear ho hb hg hat) | ((with_reducible refine gate_callee (f := 105) rfl ?_); refine gl 25 Tryz.func105 #[.slice Ao14 x3_1.length co14, .string (⟨#[44, 32]⟩ : ByteArray)] ?_; (with_reducible refine (strings_Join.calls _ _ x3_1 (⟨#[44, 32]⟩ : ByteArray) t397 _ ?side1 ?side2 A11.out).mono ?_); (case side1 => repeat (first | exact (Kd.R_reads' HO_3.out).2.2 | (with_reducible refine Kd.C_alloc ?_ _) | (with_reducible refine Kd.C_drewN ?_ _) | (with_reducible refine Kd.C_drew ?_))); (case side2 => exact (Kd.R_reads' HO_3.out).2.1); rintro e wq1 ⟨rfl, hb⟩; refine ⟨_, rfl, ?_⟩; replace HO_3 := aS (Kd.R_below (by exact rA HO_3.out) hb); replace HB := aS (bs_ (bl HB) hb); clear hb)))
   ·go_roundg k1
    case measure => have := HK1.out; omega
    case rel => exact ⟨(y394), (wrap64 (x10_1 + 1)), rs, H', ⟨by have := HK1.out; omega⟩, ⟨by exact rA HO396.out⟩, ⟨bl HB⟩⟩
   ·go_ret
    exact ⟨re, bl HB⟩
end Go.Proofs.YtbkknoipgmlcmaaGreatDoor.P

namespace Go.Proofs.YtbkknoipgmlcmaaGreatDoor.P
open Go.RowKit Go.Proofs.YtbkknoipgmlcmaaGreatDoorW.PrintWords Go.Proofs.YtbkknoipgmlcmaaGreatDoorW.PrintLast Go.Proofs.YtbkknoipgmlcmaaGreatDoorW.PrintMore
def frac_Text.f (_ : Int) (_ : Bool) (_ _ : List Int) : Option (ByteArray × Int) := none
theorem frac_Text.calls (a0_0 : Int) (a0_1 : Bool) (A0_2 : Option Addr) (c0_2 : Nat) (l0_2 : List Int) (A0_3 : Option Addr) (c0_3 : Nat) (l0_3 : List Int) (r1 : ByteArray) (r2 : Int) (w : World) (_ : GW w) (_ : Kd.C (Kd.int .u32) w A0_2 l0_2.length l0_2) (_ : l0_2.length ≤ c0_2) (_ : Kd.C (Kd.int .u32) w A0_3 l0_3.length l0_3) (_ : l0_3.length ≤ c0_3) (h : frac_Text.f a0_0 a0_1 l0_2 l0_3 = some (r1, r2)) :
 Calls Tryz.prog 107 #[.agg #[.int .i64 a0_0, .bool a0_1, .slice A0_2 l0_2.length c0_2, .slice A0_3 l0_3.length c0_3]] w fun e w' => e = .returned (.tuple #[.string r1, .int .i64 r2]) ∧ Below w.heap.size w w' := by cases h
end Go.Proofs.YtbkknoipgmlcmaaGreatDoor.P

namespace Go.Proofs.YtbkknoipgmlcmaaGreatDoor.P
open Go.RowKit Go.Proofs.YtbkknoipgmlcmaaGreatDoorW.PrintWords Go.Proofs.YtbkknoipgmlcmaaGreatDoorW.PrintLast Go.Proofs.YtbkknoipgmlcmaaGreatDoorW.PrintMore
open Go.Proofs.FX
attribute [local go_sem] cell_twice le_add_cast Instr.index
attribute [local go_sem] max2_int min2_int max_two min_two max_three min_three max_four min_four
def code_line.l0 : Nat → ByteArray → Int → Int → Int → Int → Int → Int → Int → Int → Int → Bool → List Int → List Int → ByteArray → Int → Int → Int → Bool → Int → Int → Option (ByteArray)
 | 0, _, _, _, _, _, _, _, _, _, _, _, _, _, _, _, _, _, _, _, _ => none
 | k + 1, x5, x21, x660, x661, x662, x399000, x399001, x399002, x399003, x399004, x399005, x399006, x399007, x408000, x408001, x408002, x408003, x408004, x408005, x408006 => if x21 < 3 then (if x21 = (0 : Int) then (if x660 = 0 then (code_line.l0 k x5 (0 + 1) x660 x661 x662 x399000 x399001 x399002 x399003 x399004 x399005 x399006 x399007 x408000 x408001 x408002 x408003 x408004 x408005 x408006) else ((code_fields.f).bind fun tk398k413 => ((strconv_Itoa.f x399001).bind fun t414 => (if 1 + t414.size ≤ 9223372036854775807 then (if x5.size + ((⟨#[32]⟩ : ByteArray) ++ t414).size ≤ 9223372036854775807 then (code_line.l0 k (x5 ++ ((⟨#[32]⟩ : ByteArray) ++ t414)) (0 + 1) x660 x661 x662 x399000 x399001 x399002 x399003 x399004 x399005 x399006 x399007 x408000 x408001 x408002 x408003 x408004 x408005 x408006) else (none)) else (none))))) else (if x21 = (1 : Int) then (if x661 = 0 then (code_line.l0 k x5 (1 + 1) x660 x661 x662 x399000 x399001 x399002 x399003 x399004 x399005 x399006 x399007 x408000 x408001 x408002 x408003 x408004 x408005 x408006) else ((code_fields.f).bind fun tk398k415 => ((strconv_Itoa.f x399002).bind fun t416 => (if 1 + t416.size ≤ 9223372036854775807 then (if x5.size + ((⟨#[32]⟩ : ByteArray) ++ t416).size ≤ 9223372036854775807 then (code_line.l0 k (x5 ++ ((⟨#[32]⟩ : ByteArray) ++ t416)) (1 + 1) x660 x661 x662 x399000 x399001 x399002 x399003 x399004 x399005 x399006 x399007 x408000 x408001 x408002 x408003 x408004 x408005 x408006) else (none)) else (none))))) else (if x21 = (2 : Int) then (if x662 = 0 then (code_line.l0 k x5 (2 + 1) x660 x661 x662 x399000 x399001 x399002 x399003 x399004 x399005 x399006 x399007 x408000 x408001 x408002 x408003 x408004 x408005 x408006) else ((code_fields.f).bind fun tk398k417 => ((strconv_Itoa.f x399003).bind fun t418 => (if 1 + t418.size ≤ 9223372036854775807 then (if x5.size + ((⟨#[32]⟩ : ByteArray) ++ t418).size ≤ 9223372036854775807 then (code_line.l0 k (x5 ++ ((⟨#[32]⟩ : ByteArray) ++ t418)) (2 + 1) x660 x661 x662 x399000 x399001 x399002 x399003 x399004 x399005 x399006 x399007 x408000 x408001 x408002 x408003 x408004 x408005 x408006) else (none)) else (none))))) else (none)))) else (if x408004 = true then ((frac_Text.f x399004 x399005 x399006 x399007).bind fun bt411 => (if 1 + bt411.1.size ≤ 9223372036854775807 then (if x5.size + ((⟨#[32]⟩ : ByteArray) ++ bt411.1).size ≤ 9223372036854775807 then (if (x5 ++ ((⟨#[32]⟩ : ByteArray) ++ bt411.1)).size + 1 ≤ 9223372036854775807 then (some ((x5 ++ ((⟨#[32]⟩ : ByteArray) ++ bt411.1)) ++ (⟨#[10]⟩ : ByteArray))) else (none)) else (none)) else (none))) else (if x5.size + 1 ≤ 9223372036854775807 then (some (x5 ++ (⟨#[10]⟩ : ByteArray))) else (none)))
def code_line.f (k : Nat) (a0_0 : Int) (a0_1 : Int) (a0_2 : Int) (a0_3 : Int) (a0_4 : Int) (a0_5 : Bool) (l0_6 : List Int) (l0_7 : List Int) : Option (ByteArray) := (code_of.f a0_0).bind fun bt399 => (if 2 + bt399.1.size ≤ 9223372036854775807 then ((code_uses.f bt399.1 bt399.2.1 bt399.2.2.1 bt399.2.2.2.1 bt399.2.2.2.2.1 bt399.2.2.2.2.2.1 bt399.2.2.2.2.2.2.1).bind fun bt408 => (code_line.l0 k ((⟨#[32, 32]⟩ : ByteArray) ++ bt399.1) 0 bt408.1 bt408.2.1 bt408.2.2 a0_0 a0_1 a0_2 a0_3 a0_4 a0_5 l0_6 l0_7 bt399.1 bt399.2.1 bt399.2.2.1 bt399.2.2.2.1 bt399.2.2.2.2.1 bt399.2.2.2.2.2.1 bt399.2.2.2.2.2.2.1)) else (none))
theorem code_line.calls (k : Nat) (a0_0 : Int) (a0_1 : Int) (a0_2 : Int) (a0_3 : Int) (a0_4 : Int) (a0_5 : Bool) (A0_6 : Option Addr) (c0_6 : Nat) (l0_6 : List Int) (A0_7 : Option Addr) (c0_7 : Nat) (l0_7 : List Int) (r : ByteArray) (w : World) (hG : GW w) (hr0_6 : Kd.C (Kd.int .u32) w A0_6 l0_6.length l0_6) (hc0_6 : l0_6.length ≤ c0_6) (hr0_7 : Kd.C (Kd.int .u32) w A0_7 l0_7.length l0_7) (hc0_7 : l0_7.length ≤ c0_7) (h : code_line.f k a0_0 a0_1 a0_2 a0_3 a0_4 a0_5 l0_6 l0_7 = some r) :
 Calls Tryz.prog 49 #[.agg #[.int .i64 a0_0, .int .i64 a0_1, .int .i64 a0_2, .int .i64 a0_3, .int .i64 a0_4, .bool a0_5, .slice A0_6 l0_6.length c0_6, .slice A0_7 l0_7.length c0_7]] w fun e w' => e = .returned (.string r) ∧ Below w.heap.size w w' := by
 have hu63 := Tryz.underlying63
 have hu72 := Tryz.underlying72
 have hu61 := Tryz.underlying61
 have HR0_6 := aS hr0_6
 have HC0_6 := aS hc0_6
 clear hr0_6 hc0_6
 have HR0_7 := aS hr0_7
 have HC0_7 := aS hc0_7
 clear hr0_7 hc0_7
 have HG := aS hG
 clear hG
 have HB := aS (Below.refl w.heap.size w)
 have H := h
 unfold code_line.f at H
 clear h
 replace H := bS H
 obtain ⟨⟨t399, t400, t401, t402, t403, t404, t405, t406⟩, A20, H⟩ := H
 (try dsimp only at H)
 have A2 := aS A20
 clear A20
 by_cases c3 : 2 + t399.size ≤ 9223372036854775807; rotate_left
 ·rw [if_neg c3] at H
  cases H
 rw [if_pos c3] at H
 have c3b0 := eq_true c3
 have c3b1 := dT c3
 try have c3b2 : (9223372036854775807 < 2 + t399.size) = False := eq_false (Nat.not_lt.2 c3)
 replace H := bS H
 obtain ⟨⟨t408, t409, t410⟩, A40, H⟩ := H
 (try dsimp only at H)
 have A4 := aS A40
 clear A40
 have H' := aS H
 clear H
 have hu70 := Tryz.underlying70; have hu75 := Tryz.underlying75; have hu77 := Tryz.underlying77; have hu78 := Tryz.underlying78
 go_enter Tryz.func49, Tryz.ntmps49
 go_wp2_with (first | ((with_reducible refine gate_dst (N := 1) rfl ?_); refine bx (N := 1) (cs := #[.int .i64 a0_0, .int .i64 a0_1, .int .i64 a0_2, .int .i64 a0_3, .int .i64 a0_4, .bool a0_5, .slice A0_6 l0_6.length c0_6, .slice A0_7 l0_7.length c0_7]) (t := 63) ?_; intro gb398 hg w5 hbox hb; have BK398 := aS (hbox); have GW398 := (gz hg HB : Aside0 (w.heap.size ≤ gb398)); have GE398 := (gz hg HB : Aside0 (w.heap.size ≤ gb398)); replace HB := aS (bs_ (bl HB) hb); clear hb hbox hg; obtain ⟨hcz6_0, hcz6_1, hcz6_2, hcz6_3, hcz6_4, hcz6_5, hcz6_6, hcz6_7, hfz6_0, hfz6_1, hfz6_2, hfz6_3, hfz6_4, hfz6_5, hfz6_6, hfz6_7⟩ := cf8 BK398.out) | ((with_reducible refine gate_callee (f := 41) rfl ?_); refine gl 13 Tryz.func41 #[.int .i64 a0_0] ?_; (with_reducible refine (code_of.calls a0_0 t399 t400 t401 t402 t403 t404 t405 t406 _ ?side1 A2.out).mono ?_); (case side1 => exact GW.below HG.out (bl HB)); rintro e w7 ⟨rfl, hb⟩; refine ⟨_, rfl, ?_⟩; replace BK398 := aS (blk_below (bj BK398) hb); replace HB := aS (bs_ (bl HB) hb); clear hb) | ((with_reducible refine gate_dst (N := 3) rfl ?_); refine bx (N := 3) (cs := #[.string (⟨#[]⟩ : ByteArray), .int .i64 0, .int .i64 0, .int .i64 0, .bool false, .int .i64 0, .int .i64 0]) (t := 72) ?_; intro gb407 hg w8 hbox hb; have n0_ := aS (blk_below (bj BK398) hb); have n1_ := aS (bs_ (bl HB) hb); have n2_ := aS (hbox); have n3_ := (gz hg HB : Aside0 (w.heap.size ≤ gb407)); have n4_ := (gz hg HB : Aside0 (w.heap.size ≤ gb407)); have n5_ := aS ((by rw [hg]; exact Nat.ne_of_lt (blk_lt (bj BK398)) : gb398 ≠ gb407)); have n6_ := aS ((by rw [hg]; exact Nat.ne_of_gt (blk_lt (bj BK398)) : gb407 ≠ gb398)); clear BK398; clear HB; have BK398 := n0_; have HB := n1_; have BK407 := n2_; have GW407 := n3_; have GE407 := n4_; have NB398_407 := n5_; have NB407_398 := n6_; clear n0_ n1_ n2_ n3_ n4_ n5_ n6_; clear hb hbox hg; have hnb9 := NB407_398.out; have hnc9 := NB398_407.out; obtain ⟨hcz10_0, hcz10_1, hcz10_2, hcz10_3, hcz10_4, hcz10_5, hcz10_6, hfz10_0, hfz10_1, hfz10_2, hfz10_3, hfz10_4, hfz10_5, hfz10_6⟩ := cf7 BK407.out) | ((with_reducible refine gate_callee (f := 42) rfl ?_); refine gl 20 Tryz.func42 #[.agg #[.string t399, .int .i64 t400, .int .i64 t401, .int .i64 t402, .bool t403, .int .i64 t404, .int .i64 t405]] ?_; (with_reducible refine (code_uses.calls t399 t400 t401 t402 t403 t404 t405 t408 t409 t410 _ A4.out).mono ?_); rintro e w11 ⟨rfl, hb⟩; refine ⟨_, rfl, ?_⟩; replace BK398 := aS (blk_below (bj BK398) hb); replace BK407 := aS (blk_below (g := gb407) (o := .cells #[.string t399, .int .i64 t400, .int .i64 t401, .int .i64 t402, .bool t403, .int .i64 t404, .int .i64 t405] 72 (0, 0)) (bp BK407) hb); replace HB := aS (bs_ (bl HB) hb); clear hb))
 go_loopg [5, 21] k (fun kq v5 v21 w' => ∃ (x5_1 : ByteArray) (x21_1 : Int) (x399000_1 : Int) (x399001_1 : Int) (x399002_1 : Int) (x399003_1 : Int) (x399004_1 : Int) (x399005_1 : Bool), v5 = .string x5_1 ∧ v21 = .int .i64 x21_1 ∧ Aside0 (code_line.l0 kq x5_1 x21_1 t408 t409 t410 x399000_1 x399001_1 x399002_1 x399003_1 x399004_1 x399005_1 l0_6 l0_7 t399 t400 t401 t402 t403 t404 t405 = some r) ∧ Aside0 (kq ≤ k) ∧ Aside0 (w'.heap[gb398]? = some (.cells #[.int .i64 x399000_1, .int .i64 x399001_1, .int .i64 x399002_1, .int .i64 x399003_1, .int .i64 x399004_1, .bool x399005_1, (.slice A0_6 l0_6.length c0_6), (.slice A0_7 l0_7.length c0_7)] 63 (0, 0))) ∧ Aside0 (w'.heap[gb407]? = some (.cells #[.string t399, .int .i64 t400, .int .i64 t401, .int .i64 t402, .bool t403, .int .i64 t404, .int .i64 t405] 72 (0, 0))) ∧ Aside0 (Below w.heap.size w w'))
 case atStart => exact ⟨((⟨#[32, 32]⟩ : ByteArray) ++ t399), (0), (a0_0), (a0_1), (a0_2), (a0_3), (a0_4), (a0_5), rs, rs, H', ⟨Nat.le_refl _⟩, ⟨bk BK398⟩, ⟨bk BK407⟩, ⟨bl HB⟩⟩
 case round =>
  clear H'
  (try clear p2); (try clear c3); (try clear c3b0); (try clear c3b1); (try clear c3b2); (try clear c4); (try clear c9); (try clear hcz10_0); (try clear hcz10_1); (try clear hcz10_2); (try clear hcz10_3); (try clear hcz10_4); (try clear hcz10_5); (try clear hcz10_6); (try clear hcz6_0); (try clear hcz6_1); (try clear hcz6_2); (try clear hcz6_3); (try clear hcz6_4); (try clear hcz6_5); (try clear hcz6_6); (try clear hcz6_7); (try clear hfz10_0); (try clear hfz10_1); (try clear hfz10_2); (try clear hfz10_3); (try clear hfz10_4); (try clear hfz10_5); (try clear hfz10_6); (try clear hfz6_0); (try clear hfz6_1); (try clear hfz6_2); (try clear hfz6_3); (try clear hfz6_4); (try clear hfz6_5); (try clear hfz6_6); (try clear hfz6_7)
  obtain ⟨x5_1, x21_1, x399000_1, x399001_1, x399002_1, x399003_1, x399004_1, x399005_1, rfl, rfl, HA, HK1, BK398, BK407, HB⟩ := hrel
  cases gk with
  | zero => exact absurd HA.out (by simp [code_line.l0])
  | succ k1 =>
   have H := HA.out
   clear HA
   simp only [code_line.l0] at H
   by_cases c12 : x21_1 < 3
   focus
    rw [if_pos c12] at H
    have c12b0 := dT c12
    clear c12
    by_cases c13 : x21_1 = (0 : Int)
    focus
     rw [if_pos c13] at H
     subst c13
     by_cases c14 : t408 = 0
     focus
      rw [if_pos c14] at H
      have c14b0 := bT c14
      have c14b1 := nF c14
      clear c14
      have H' := aS H
      clear H
      go_wp2
      go_roundg k1
      case measure => have := HK1.out; omega
      case rel => exact ⟨(x5_1), (0 + 1), (x399000_1), (x399001_1), (x399002_1), (x399003_1), (x399004_1), (x399005_1), rs, rs, H', ⟨by have := HK1.out; omega⟩, ⟨bk BK398⟩, ⟨bk BK407⟩, ⟨bl HB⟩⟩
     focus
      rw [if_neg c14] at H
      have c14b0 := bF c14
      have c14b1 := nT c14
      replace H := bS H
      obtain ⟨tk398k413, A150, H⟩ := H
      (try dsimp only at H)
      have A15 := aS A150
      clear A150
      replace H := bS H
      obtain ⟨t414, A160, H⟩ := H
      (try dsimp only at H)
      have A16 := aS A160
      clear A160
      by_cases c17 : 1 + t414.size ≤ 9223372036854775807
      focus
       rw [if_pos c17] at H
       have c17b0 := eq_true c17
       have c17b1 := dT c17
       try have c17b2 : (9223372036854775807 < 1 + t414.size) = False := eq_false (Nat.not_lt.2 c17)
       by_cases c18 : x5_1.size + ((⟨#[32]⟩ : ByteArray) ++ t414).size ≤ 9223372036854775807
       focus
        rw [if_pos c18] at H
        have c18b0 := eq_true c18
        have c18b1 := dT c18
        try have c18b2 : (9223372036854775807 < x5_1.size + ((⟨#[32]⟩ : ByteArray) ++ t414).size) = False := eq_false (Nat.not_lt.2 c18)
        have c18b3 : (9223372036854775807 < x5_1.size + (1 + t414.size)) = False := eq_false (by have h_ := c18; simp only [ByteArray.size_append, show (⟨#[32]⟩ : ByteArray).size = 1 from rfl] at h_; omega)
        have H' := aS H
        clear H
       rotate_left 1
       focus
        rw [if_neg c18] at H
        cases H
      rotate_left 1
      focus
       rw [if_neg c17] at H
       cases H
    rotate_left 1
    focus
     rw [if_neg c13] at H
     have c13b0 := bF c13
     have c13b1 := nT c13
     by_cases c22 : x21_1 = (1 : Int)
     focus
      rw [if_pos c22] at H
      subst c22
      by_cases c23 : t409 = 0
      focus
       rw [if_pos c23] at H
       have c23b0 := bT c23
       have c23b1 := nF c23
       clear c23
       have H' := aS H
       clear H
       go_wp2
       go_roundg k1
       case measure => have := HK1.out; omega
       case rel => exact ⟨(x5_1), (1 + 1), (x399000_1), (x399001_1), (x399002_1), (x399003_1), (x399004_1), (x399005_1), rs, rs, H', ⟨by have := HK1.out; omega⟩, ⟨bk BK398⟩, ⟨bk BK407⟩, ⟨bl HB⟩⟩
      focus
       rw [if_neg c23] at H
       have c23b0 := bF c23
       have c23b1 := nT c23
       replace H := bS H
       obtain ⟨tk398k415, A240, H⟩ := H
       (try dsimp only at H)
       have A24 := aS A240
       clear A240
       replace H := bS H
       obtain ⟨t416, A250, H⟩ := H
       (try dsimp only at H)
       have A25 := aS A250
       clear A250
       by_cases c26 : 1 + t416.size ≤ 9223372036854775807
       focus
        rw [if_pos c26] at H
        have c26b0 := eq_true c26
        have c26b1 := dT c26
        try have c26b2 : (9223372036854775807 < 1 + t416.size) = False := eq_false (Nat.not_lt.2 c26)
        by_cases c27 : x5_1.size + ((⟨#[32]⟩ : ByteArray) ++ t416).size ≤ 9223372036854775807
        focus
         rw [if_pos c27] at H
         have c27b0 := eq_true c27
         have c27b1 := dT c27
         try have c27b2 : (9223372036854775807 < x5_1.size + ((⟨#[32]⟩ : ByteArray) ++ t416).size) = False := eq_false (Nat.not_lt.2 c27)
         have c27b3 : (9223372036854775807 < x5_1.size + (1 + t416.size)) = False := eq_false (by have h_ := c27; simp only [ByteArray.size_append, show (⟨#[32]⟩ : ByteArray).size = 1 from rfl] at h_; omega)
         have H' := aS H
         clear H
        rotate_left 1
        focus
         rw [if_neg c27] at H
         cases H
       rotate_left 1
       focus
        rw [if_neg c26] at H
        cases H
     rotate_left 1
     focus
      rw [if_neg c22] at H
      have c22b0 := bF c22
      have c22b1 := nT c22
      by_cases c31 : x21_1 = (2 : Int)
      focus
       rw [if_pos c31] at H
       subst c31
       by_cases c32 : t410 = 0
       focus
        rw [if_pos c32] at H
        have c32b0 := bT c32
        have c32b1 := nF c32
        clear c32
        have H' := aS H
        clear H
        go_wp2
        go_roundg k1
        case measure => have := HK1.out; omega
        case rel => exact ⟨(x5_1), (2 + 1), (x399000_1), (x399001_1), (x399002_1), (x399003_1), (x399004_1), (x399005_1), rs, rs, H', ⟨by have := HK1.out; omega⟩, ⟨bk BK398⟩, ⟨bk BK407⟩, ⟨bl HB⟩⟩
       focus
        rw [if_neg c32] at H
        have c32b0 := bF c32
        have c32b1 := nT c32
        replace H := bS H
        obtain ⟨tk398k417, A330, H⟩ := H
        (try dsimp only at H)
        have A33 := aS A330
        clear A330
        replace H := bS H
        obtain ⟨t418, A340, H⟩ := H
        (try dsimp only at H)
        have A34 := aS A340
        clear A340
        by_cases c35 : 1 + t418.size ≤ 9223372036854775807
        focus
         rw [if_pos c35] at H
         have c35b0 := eq_true c35
         have c35b1 := dT c35
         try have c35b2 : (9223372036854775807 < 1 + t418.size) = False := eq_false (Nat.not_lt.2 c35)
         by_cases c36 : x5_1.size + ((⟨#[32]⟩ : ByteArray) ++ t418).size ≤ 9223372036854775807
         focus
          rw [if_pos c36] at H
          have c36b0 := eq_true c36
          have c36b1 := dT c36
          try have c36b2 : (9223372036854775807 < x5_1.size + ((⟨#[32]⟩ : ByteArray) ++ t418).size) = False := eq_false (Nat.not_lt.2 c36)
          have c36b3 : (9223372036854775807 < x5_1.size + (1 + t418.size)) = False := eq_false (by have h_ := c36; simp only [ByteArray.size_append, show (⟨#[32]⟩ : ByteArray).size = 1 from rfl] at h_; omega)
          have H' := aS H
          clear H
         rotate_left 1
         focus
          rw [if_neg c36] at H
          cases H
        rotate_left 1
        focus
         rw [if_neg c35] at H
         cases H
      rotate_left 1
      focus
       rw [if_neg c31] at H
       cases H
     rotate_left 1
    rotate_left 2
   rotate_left 3
   focus
    rw [if_neg c12] at H
    have c12b0 := dF c12
    clear c12
    by_cases c40 : t403 = true
    focus
     subst c40
     rw [if_pos rfl] at H
     replace H := bS H
     obtain ⟨⟨t411, t412⟩, A410, H⟩ := H
     (try dsimp only at H)
     have A41 := aS A410
     clear A410
     by_cases c42 : 1 + t411.size ≤ 9223372036854775807
     focus
      rw [if_pos c42] at H
      have c42b0 := eq_true c42
      have c42b1 := dT c42
      try have c42b2 : (9223372036854775807 < 1 + t411.size) = False := eq_false (Nat.not_lt.2 c42)
      by_cases c43 : x5_1.size + ((⟨#[32]⟩ : ByteArray) ++ t411).size ≤ 9223372036854775807
      focus
       rw [if_pos c43] at H
       have c43b0 := eq_true c43
       have c43b1 := dT c43
       try have c43b2 : (9223372036854775807 < x5_1.size + ((⟨#[32]⟩ : ByteArray) ++ t411).size) = False := eq_false (Nat.not_lt.2 c43)
       have c43b3 : (9223372036854775807 < x5_1.size + (1 + t411.size)) = False := eq_false (by have h_ := c43; simp only [ByteArray.size_append, show (⟨#[32]⟩ : ByteArray).size = 1 from rfl] at h_; omega)
       by_cases c44 : (x5_1 ++ ((⟨#[32]⟩ : ByteArray) ++ t411)).size + 1 ≤ 9223372036854775807
       focus
        rw [if_pos c44] at H
        have c44b0 := eq_true c44
        have c44b1 := dT c44
        try have c44b2 : (9223372036854775807 < (x5_1 ++ ((⟨#[32]⟩ : ByteArray) ++ t411)).size + 1) = False := eq_false (Nat.not_lt.2 c44)
        have c44b3 : (9223372036854775807 < x5_1.size + (1 + t411.size) + 1) = False := eq_false (by have h_ := c44; simp only [ByteArray.size_append, show (⟨#[32]⟩ : ByteArray).size = 1 from rfl] at h_; omega)
        obtain rfl := sI H
        have hnb45 := NB407_398.out
        have hnc45 := NB398_407.out
        obtain ⟨_, _, _, _, _, _, _, _, _, _, _, _, _, _⟩ := cf7 BK407.out
        obtain ⟨_, _, _, _, _, _, _, _, _, _, _, _, _, _, _, _⟩ := cf8 BK398.out
       rotate_left 1
       focus
        rw [if_neg c44] at H
        cases H
      rotate_left 1
      focus
       rw [if_neg c43] at H
       cases H
     rotate_left 1
     focus
      rw [if_neg c42] at H
      cases H
    rotate_left 1
    focus
     replace c40 := Bool.eq_false_iff.mpr c40
     subst c40
     rw [if_neg iN] at H
     by_cases c49 : x5_1.size + 1 ≤ 9223372036854775807
     focus
      rw [if_pos c49] at H
      have c49b0 := eq_true c49
      have c49b1 := dT c49
      try have c49b2 : (9223372036854775807 < x5_1.size + 1) = False := eq_false (Nat.not_lt.2 c49)
      obtain rfl := sI H
      have hnb50 := NB407_398.out
      have hnc50 := NB398_407.out
      obtain ⟨_, _, _, _, _, _, _, _, _, _, _, _, _, _⟩ := cf7 BK407.out
      go_wp2
      go_ret
      exact ⟨re, bl HB⟩
     focus
      rw [if_neg c49] at H
      cases H
   rotate_left 1
   all_goals (go_wp2_with (first | (go_at_call 43; (with_reducible refine (fields_calls gb398 _).mono ?_); rintro e wq1 ⟨rfl, hb⟩; replace BK398 := aS (blk_below (bj BK398) hb); replace BK407 := aS (blk_below (bj BK407) hb); replace HB := aS (bs_ (bl HB) hb); clear hb; have hnb20 := NB398_407.out; have hnc20 := NB407_398.out; obtain ⟨_, _, _, _, _, _, _, _, _, _, _, _, _, _, _, _⟩ := cf8 BK398.out) | ((with_reducible refine gate_callee (f := 48) rfl ?_); refine gl 33 Tryz.func48 #[.int .i64 x399001_1] ?_; (with_reducible refine (strconv_Itoa.calls x399001_1 t414 _ A16.out).mono ?_); rintro e w' ⟨rfl, ⟨nd, rfl⟩⟩; refine ⟨_, rfl, ?_⟩) | (go_at_call 43; (with_reducible refine (fields_calls gb398 _).mono ?_); rintro e wq1 ⟨rfl, hb⟩; replace BK398 := aS (blk_below (bj BK398) hb); replace BK407 := aS (blk_below (bj BK407) hb); replace HB := aS (bs_ (bl HB) hb); clear hb; have hnb29 := NB398_407.out; have hnc29 := NB407_398.out; obtain ⟨_, _, _, _, _, _, _, _, _, _, _, _, _, _, _, _⟩ := cf8 BK398.out) | ((with_reducible refine gate_callee (f := 48) rfl ?_); refine gl 33 Tryz.func48 #[.int .i64 x399002_1] ?_; (with_reducible refine (strconv_Itoa.calls x399002_1 t416 _ A25.out).mono ?_); rintro e w' ⟨rfl, ⟨nd, rfl⟩⟩; refine ⟨_, rfl, ?_⟩) | (go_at_call 43; (with_reducible refine (fields_calls gb398 _).mono ?_); rintro e wq1 ⟨rfl, hb⟩; replace BK398 := aS (blk_below (bj BK398) hb); replace BK407 := aS (blk_below (bj BK407) hb); replace HB := aS (bs_ (bl HB) hb); clear hb; have hnb38 := NB398_407.out; have hnc38 := NB407_398.out; obtain ⟨_, _, _, _, _, _, _, _, _, _, _, _, _, _, _, _⟩ := cf8 BK398.out) | ((with_reducible refine gate_callee (f := 48) rfl ?_); refine gl 33 Tryz.func48 #[.int .i64 x399003_1] ?_; (with_reducible refine (strconv_Itoa.calls x399003_1 t418 _ A34.out).mono ?_); rintro e w' ⟨rfl, ⟨nd, rfl⟩⟩; refine ⟨_, rfl, ?_⟩) | ((with_reducible refine gate_callee (f := 107) rfl ?_); refine gl 42 Tryz.func107 #[.agg #[.int .i64 x399004_1, .bool x399005_1, .slice A0_6 l0_6.length c0_6, .slice A0_7 l0_7.length c0_7]] ?_; (with_reducible refine (frac_Text.calls x399004_1 x399005_1 _ _ l0_6 _ _ l0_7 t411 t412 _ ?side1 ?side2 ?side3 ?side4 ?side5 A41.out).mono ?_); (case side1 => exact GW.below HG.out (bl HB)); (case side2 => exact cb HR0_6 HB); (case side3 => exact HC0_6.out); (case side4 => exact cb HR0_7 HB); (case side5 => exact HC0_7.out); rintro e wq1 ⟨rfl, hb⟩; refine ⟨_, rfl, ?_⟩; replace BK398 := aS (blk_below (bj BK398) hb); replace BK407 := aS (blk_below (bj BK407) hb); replace HB := aS (bs_ (bl HB) hb); clear hb)))
   ·go_roundg k1
    case measure => have := HK1.out; omega
    case rel => exact ⟨(x5_1 ++ ((⟨#[32]⟩ : ByteArray) ++ t414)), (0 + 1), (x399000_1), (x399001_1), (x399002_1), (x399003_1), (x399004_1), (x399005_1), rs, rs, H', ⟨by have := HK1.out; omega⟩, ⟨bk BK398⟩, ⟨bk BK407⟩, ⟨bl HB⟩⟩
   ·go_roundg k1
    case measure => have := HK1.out; omega
    case rel => exact ⟨(x5_1 ++ ((⟨#[32]⟩ : ByteArray) ++ t416)), (1 + 1), (x399000_1), (x399001_1), (x399002_1), (x399003_1), (x399004_1), (x399005_1), rs, rs, H', ⟨by have := HK1.out; omega⟩, ⟨bk BK398⟩, ⟨bk BK407⟩, ⟨bl HB⟩⟩
   ·go_roundg k1
    case measure => have := HK1.out; omega
    case rel => exact ⟨(x5_1 ++ ((⟨#[32]⟩ : ByteArray) ++ t418)), (2 + 1), (x399000_1), (x399001_1), (x399002_1), (x399003_1), (x399004_1), (x399005_1), rs, rs, H', ⟨by have := HK1.out; omega⟩, ⟨bk BK398⟩, ⟨bk BK407⟩, ⟨bl HB⟩⟩
   ·go_ret
    exact ⟨re, bl HB⟩
end Go.Proofs.YtbkknoipgmlcmaaGreatDoor.P

