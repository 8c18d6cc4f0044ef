import Derived.Test.YtbkknoipgmlcmaaGreatDoorQSXZ
import Derived.Test.YtbkknoipgmlcmaaGreatDoorQSP0
import Derived.Test.YtbkknoipgmlcmaaGreatDoorQSHOf
import Derived.Test.YtbkknoipgmlcmaaGreatDoorQSHItoa
import Derived.Test.YtbkknoipgmlcmaaGreatDoorQSHRat
import Derived.Test.YtbkknoipgmlcmaaGreatDoorQSHUse
import Derived.Test.YtbkknoipgmlcmaaGreatDoorQSG
namespace Go.Proofs.YtbkknoipgmlcmaaGreatDoor.P
open Go.RowKit Go.Proofs.YtbkknoipgmlcmaaGreatDoorW.PrintWords Go.Proofs.YtbkknoipgmlcmaaGreatDoorW.PrintLast Go.Proofs.YtbkknoipgmlcmaaGreatDoorW.PrintMore
open Go.Proofs.FX
attribute [local go_sem] cell_twice le_add_cast Instr.index
attribute [local go_sem] max2_int min2_int max_two min_two max_three min_three max_four min_four
set_option linter.unusedVariables false
set_option linter.unusedSimpArgs false
def code_line.l0 : Nat → ByteArray → Int → Int → Int → Int → Int → Int → Int → Int → Int → Bool → List Int → List Int → ByteArray → Int → Int → Int → Bool → Int → Int → Option (ByteArray)
 | 0, _, _, _, _, _, _, _, _, _, _, _, _, _, _, _, _, _, _, _, _ => none
 | k + 1, x5, x21, x660, x661, x662, x244000, x244001, x244002, x244003, x244004, x244005, x244006, x244007, x253000, x253001, x253002, x253003, x253004, x253005, x253006 => if x21 < 3 then (if x21 = (0 : Int) then (if x660 = 0 then (code_line.l0 k x5 (0 + 1) x660 x661 x662 x244000 x244001 x244002 x244003 x244004 x244005 x244006 x244007 x253000 x253001 x253002 x253003 x253004 x253005 x253006) else ((code_fields.f).bind fun tk243k258 => ((strconv_Itoa.f x244001).bind fun t259 => (if 1 + t259.size ≤ 9223372036854775807 then (if x5.size + ((⟨#[32]⟩ : ByteArray) ++ t259).size ≤ 9223372036854775807 then (code_line.l0 k (x5 ++ ((⟨#[32]⟩ : ByteArray) ++ t259)) (0 + 1) x660 x661 x662 x244000 x244001 x244002 x244003 x244004 x244005 x244006 x244007 x253000 x253001 x253002 x253003 x253004 x253005 x253006) else (none)) else (none))))) else (if x21 = (1 : Int) then (if x661 = 0 then (code_line.l0 k x5 (1 + 1) x660 x661 x662 x244000 x244001 x244002 x244003 x244004 x244005 x244006 x244007 x253000 x253001 x253002 x253003 x253004 x253005 x253006) else ((code_fields.f).bind fun tk243k260 => ((strconv_Itoa.f x244002).bind fun t261 => (if 1 + t261.size ≤ 9223372036854775807 then (if x5.size + ((⟨#[32]⟩ : ByteArray) ++ t261).size ≤ 9223372036854775807 then (code_line.l0 k (x5 ++ ((⟨#[32]⟩ : ByteArray) ++ t261)) (1 + 1) x660 x661 x662 x244000 x244001 x244002 x244003 x244004 x244005 x244006 x244007 x253000 x253001 x253002 x253003 x253004 x253005 x253006) else (none)) else (none))))) else (if x21 = (2 : Int) then (if x662 = 0 then (code_line.l0 k x5 (2 + 1) x660 x661 x662 x244000 x244001 x244002 x244003 x244004 x244005 x244006 x244007 x253000 x253001 x253002 x253003 x253004 x253005 x253006) else ((code_fields.f).bind fun tk243k262 => ((strconv_Itoa.f x244003).bind fun t263 => (if 1 + t263.size ≤ 9223372036854775807 then (if x5.size + ((⟨#[32]⟩ : ByteArray) ++ t263).size ≤ 9223372036854775807 then (code_line.l0 k (x5 ++ ((⟨#[32]⟩ : ByteArray) ++ t263)) (2 + 1) x660 x661 x662 x244000 x244001 x244002 x244003 x244004 x244005 x244006 x244007 x253000 x253001 x253002 x253003 x253004 x253005 x253006) else (none)) else (none))))) else (none)))) else (if x253004 = true then ((frac_Text.f x244004 x244005 x244006 x244007).bind fun bt256 => (if 1 + bt256.1.size ≤ 9223372036854775807 then (if x5.size + ((⟨#[32]⟩ : ByteArray) ++ bt256.1).size ≤ 9223372036854775807 then (if (x5 ++ ((⟨#[32]⟩ : ByteArray) ++ bt256.1)).size + 1 ≤ 9223372036854775807 then (some ((x5 ++ ((⟨#[32]⟩ : ByteArray) ++ bt256.1)) ++ (⟨#[10]⟩ : ByteArray))) else (none)) else (none)) else (none))) else (if x5.size + 1 ≤ 9223372036854775807 then (some (x5 ++ (⟨#[10]⟩ : ByteArray))) else (none)))
def code_line.f (k : Nat) (a0_0 : Int) (a0_1 : Int) (a0_2 : Int) (a0_3 : Int) (a0_4 : Int) (a0_5 : Bool) (l0_6 : List Int) (l0_7 : List Int) : Option (ByteArray) := (code_of.f a0_0).bind fun bt244 => (if 2 + bt244.1.size ≤ 9223372036854775807 then ((code_uses.f bt244.1 bt244.2.1 bt244.2.2.1 bt244.2.2.2.1 bt244.2.2.2.2.1 bt244.2.2.2.2.2.1 bt244.2.2.2.2.2.2.1).bind fun bt253 => (code_line.l0 k ((⟨#[32, 32]⟩ : ByteArray) ++ bt244.1) 0 bt253.1 bt253.2.1 bt253.2.2 a0_0 a0_1 a0_2 a0_3 a0_4 a0_5 l0_6 l0_7 bt244.1 bt244.2.1 bt244.2.2.1 bt244.2.2.2.1 bt244.2.2.2.2.1 bt244.2.2.2.2.2.1 bt244.2.2.2.2.2.2.1)) else (none))
set_option maxHeartbeats 8000000 in
set_option maxRecDepth 100000 in
theorem code_line.calls (k : Nat) (a0_0 : Int) (a0_1 : Int) (a0_2 : Int) (a0_3 : Int) (a0_4 : Int) (a0_5 : Bool) (A0_6 : Option Addr) (c0_6 : Nat) (l0_6 : List Int) (A0_7 : Option Addr) (c0_7 : Nat) (l0_7 : List Int) (r : ByteArray) (w : World) (hG : GW w) (hr0_6 : Kd.C (Kd.int .u32) w A0_6 l0_6.length l0_6) (hc0_6 : l0_6.length ≤ c0_6) (hr0_7 : Kd.C (Kd.int .u32) w A0_7 l0_7.length l0_7) (hc0_7 : l0_7.length ≤ c0_7) (h : code_line.f k a0_0 a0_1 a0_2 a0_3 a0_4 a0_5 l0_6 l0_7 = some r) :
  Calls Tryz.prog 49 #[.agg #[.int .i64 a0_0, .int .i64 a0_1, .int .i64 a0_2, .int .i64 a0_3, .int .i64 a0_4, .bool a0_5, .slice A0_6 l0_6.length c0_6, .slice A0_7 l0_7.length c0_7]] w fun e w' => e = .returned (.string r) ∧ Below w.heap.size w w' := by
 have hu63 := Tryz.underlying63
 have hu72 := Tryz.underlying72
 have hu61 := Tryz.underlying61
 have HR0_6 := Aside0.mk hr0_6
 have HC0_6 := Aside0.mk hc0_6
 clear hr0_6 hc0_6
 have HR0_7 := Aside0.mk hr0_7
 have HC0_7 := Aside0.mk hc0_7
 clear hr0_7 hc0_7
 have HG := Aside0.mk hG
 clear hG
 have HB := Aside0.mk (Below.refl w.heap.size w)
 have H : ((code_of.f a0_0).bind fun bt244 => (if 2 + bt244.1.size ≤ 9223372036854775807 then ((code_uses.f bt244.1 bt244.2.1 bt244.2.2.1 bt244.2.2.2.1 bt244.2.2.2.2.1 bt244.2.2.2.2.2.1 bt244.2.2.2.2.2.2.1).bind fun bt253 => (code_line.l0 k ((⟨#[32, 32]⟩ : ByteArray) ++ bt244.1) 0 bt253.1 bt253.2.1 bt253.2.2 a0_0 a0_1 a0_2 a0_3 a0_4 a0_5 l0_6 l0_7 bt244.1 bt244.2.1 bt244.2.2.1 bt244.2.2.2.1 bt244.2.2.2.2.1 bt244.2.2.2.2.2.1 bt244.2.2.2.2.2.2.1)) else (none))) = some r := h
 clear h
 replace H := Option.bind_eq_some_iff.mp H
 obtain ⟨⟨t244, t245, t246, t247, t248, t249, t250, t251⟩, A20, H⟩ := H
 (try dsimp only at H)
 have A2 := Aside0.mk A20
 clear A20
 by_cases c3 : 2 + t244.size ≤ 9223372036854775807
 ·rw [if_pos c3] at H
  have c3b0 := eq_true c3
  have c3b1 : decide (2 + t244.size ≤ 9223372036854775807) = true := decide_eq_true c3
  try have c3b2 : (9223372036854775807 < 2 + t244.size) = False := eq_false (Nat.not_lt.2 c3)
  replace H := Option.bind_eq_some_iff.mp H
  obtain ⟨⟨t253, t254, t255⟩, A40, H⟩ := H
  (try dsimp only at H)
  have A4 := Aside0.mk A40
  clear A40
  have H' := Aside0.mk H
  clear H
  have hu70 := Tryz.underlying70; have hu75 := Tryz.underlying75; have hu77 := Tryz.underlying77; have hu78 := Tryz.underlying78
  go_enter Tryz.func49, Tryz.ntmps49
  go_wp2_with (first | ((with_reducible refine gate_dst (N := 1) rfl ?_); refine bx (N := 1) (cs := #[.int .i64 a0_0, .int .i64 a0_1, .int .i64 a0_2, .int .i64 a0_3, .int .i64 a0_4, .bool a0_5, .slice A0_6 l0_6.length c0_6, .slice A0_7 l0_7.length c0_7]) (t := 63) ?_; intro gb243 hg w5 hbox hb; have BK243 := Aside0.mk (hbox); have GW243 := (gz hg HB : Aside0 (w.heap.size ≤ gb243)); have GE243 := (gz hg HB : Aside0 (w.heap.size ≤ gb243)); replace HB := Aside0.mk (below_step (bl HB) hb); clear hb hbox hg; have hcz6_0 := blk_cell BK243.out 0; have hcz6_1 := blk_cell BK243.out 1; have hcz6_2 := blk_cell BK243.out 2; have hcz6_3 := blk_cell BK243.out 3; have hcz6_4 := blk_cell BK243.out 4; have hcz6_5 := blk_cell BK243.out 5; have hcz6_6 := blk_cell BK243.out 6; have hcz6_7 := blk_cell BK243.out 7; have hfz6_0 := blk_frozen BK243.out 0; have hfz6_1 := blk_frozen BK243.out 1; have hfz6_2 := blk_frozen BK243.out 2; have hfz6_3 := blk_frozen BK243.out 3; have hfz6_4 := blk_frozen BK243.out 4; have hfz6_5 := blk_frozen BK243.out 5; have hfz6_6 := blk_frozen BK243.out 6; have hfz6_7 := blk_frozen BK243.out 7) | ((with_reducible refine gate_callee (f := 41) rfl ?_); refine gl 13 Tryz.func41 #[.int .i64 a0_0] ?_; (with_reducible refine (code_of.calls a0_0 t244 t245 t246 t247 t248 t249 t250 t251 _ ?side1 A2.out).mono ?_); (case side1 => exact GW.below HG.out (bl HB)); rintro e w7 ⟨rfl, hb⟩; refine ⟨_, rfl, ?_⟩; replace BK243 := Aside0.mk (blk_below (g := gb243) (o := .cells #[.int .i64 a0_0, .int .i64 a0_1, .int .i64 a0_2, .int .i64 a0_3, .int .i64 a0_4, .bool a0_5, .slice A0_6 l0_6.length c0_6, .slice A0_7 l0_7.length c0_7] 63 (0, 0)) (bk BK243) hb); replace HB := Aside0.mk (below_step (bl HB) hb); clear hb) | ((with_reducible refine gate_dst (N := 3) rfl ?_); refine bx (N := 3) (cs := #[.string (⟨#[]⟩ : ByteArray), .int .i64 0, .int .i64 0, .int .i64 0, .bool false, .int .i64 0, .int .i64 0]) (t := 72) ?_; intro gb252 hg w8 hbox hb; have n0_ := Aside0.mk (blk_below (g := gb243) (o := .cells #[.int .i64 a0_0, .int .i64 a0_1, .int .i64 a0_2, .int .i64 a0_3, .int .i64 a0_4, .bool a0_5, .slice A0_6 l0_6.length c0_6, .slice A0_7 l0_7.length c0_7] 63 (0, 0)) (bk BK243) hb); have n1_ := Aside0.mk (below_step (bl HB) hb); have n2_ := Aside0.mk (hbox); have n3_ := (gz hg HB : Aside0 (w.heap.size ≤ gb252)); have n4_ := (gz hg HB : Aside0 (w.heap.size ≤ gb252)); have n5_ := Aside0.mk ((by rw [hg]; exact Nat.ne_of_lt (blk_lt (g := gb243) (o := .cells #[.int .i64 a0_0, .int .i64 a0_1, .int .i64 a0_2, .int .i64 a0_3, .int .i64 a0_4, .bool a0_5, .slice A0_6 l0_6.length c0_6, .slice A0_7 l0_7.length c0_7] 63 (0, 0)) (bk BK243)) : gb243 ≠ gb252)); have n6_ := Aside0.mk ((by rw [hg]; exact Nat.ne_of_gt (blk_lt (g := gb243) (o := .cells #[.int .i64 a0_0, .int .i64 a0_1, .int .i64 a0_2, .int .i64 a0_3, .int .i64 a0_4, .bool a0_5, .slice A0_6 l0_6.length c0_6, .slice A0_7 l0_7.length c0_7] 63 (0, 0)) (bk BK243)) : gb252 ≠ gb243)); clear BK243; clear HB; have BK243 := n0_; have HB := n1_; have BK252 := n2_; have GW252 := n3_; have GE252 := n4_; have NB243_252 := n5_; have NB252_243 := n6_; clear n0_ n1_ n2_ n3_ n4_ n5_ n6_; clear hb hbox hg; have hnb9 := NB252_243.out; have hnc9 := NB243_252.out; have hcz10_0 := blk_cell BK252.out 0; have hcz10_1 := blk_cell BK252.out 1; have hcz10_2 := blk_cell BK252.out 2; have hcz10_3 := blk_cell BK252.out 3; have hcz10_4 := blk_cell BK252.out 4; have hcz10_5 := blk_cell BK252.out 5; have hcz10_6 := blk_cell BK252.out 6; have hfz10_0 := blk_frozen BK252.out 0; have hfz10_1 := blk_frozen BK252.out 1; have hfz10_2 := blk_frozen BK252.out 2; have hfz10_3 := blk_frozen BK252.out 3; have hfz10_4 := blk_frozen BK252.out 4; have hfz10_5 := blk_frozen BK252.out 5; have hfz10_6 := blk_frozen BK252.out 6) | ((with_reducible refine gate_callee (f := 42) rfl ?_); refine gl 20 Tryz.func42 #[.agg #[.string t244, .int .i64 t245, .int .i64 t246, .int .i64 t247, .bool t248, .int .i64 t249, .int .i64 t250]] ?_; (with_reducible refine (code_uses.calls t244 t245 t246 t247 t248 t249 t250 t253 t254 t255 _ A4.out).mono ?_); rintro e w11 ⟨rfl, hb⟩; refine ⟨_, rfl, ?_⟩; replace BK243 := Aside0.mk (blk_below (g := gb243) (o := .cells #[.int .i64 a0_0, .int .i64 a0_1, .int .i64 a0_2, .int .i64 a0_3, .int .i64 a0_4, .bool a0_5, .slice A0_6 l0_6.length c0_6, .slice A0_7 l0_7.length c0_7] 63 (0, 0)) (by (with_reducible repeat (first | refine blk_drewN ?_ _ | refine blk_drew ?_ | refine blk_alloc ?_ _)); refine blk_far ?_ NB243_252.out _; (with_reducible repeat (first | refine blk_drewN ?_ _ | refine blk_drew ?_ | refine blk_alloc ?_ _)); refine blk_far ?_ NB243_252.out _; (with_reducible repeat (first | refine blk_drewN ?_ _ | refine blk_drew ?_ | refine blk_alloc ?_ _)); refine blk_far ?_ NB243_252.out _; (with_reducible repeat (first | refine blk_drewN ?_ _ | refine blk_drew ?_ | refine blk_alloc ?_ _)); refine blk_far ?_ NB243_252.out _; (with_reducible repeat (first | refine blk_drewN ?_ _ | refine blk_drew ?_ | refine blk_alloc ?_ _)); refine blk_far ?_ NB243_252.out _; (with_reducible repeat (first | refine blk_drewN ?_ _ | refine blk_drew ?_ | refine blk_alloc ?_ _)); refine blk_far ?_ NB243_252.out _; (with_reducible repeat (first | refine blk_drewN ?_ _ | refine blk_drew ?_ | refine blk_alloc ?_ _)); refine blk_far ?_ NB243_252.out _; (with_reducible repeat (first | refine blk_drewN ?_ _ | refine blk_drew ?_ | refine blk_alloc ?_ _)); exact BK243.out) hb); replace BK252 := Aside0.mk (blk_below (g := gb252) (o := .cells #[.string t244, .int .i64 t245, .int .i64 t246, .int .i64 t247, .bool t248, .int .i64 t249, .int .i64 t250] 72 (0, 0)) (by (with_reducible repeat (first | refine blk_drewN ?_ _ | refine blk_drew ?_ | refine blk_alloc ?_ _)); refine blk_put (cs := #[.string t244, .int .i64 t245, .int .i64 t246, .int .i64 t247, .bool t248, .int .i64 t249, .int .i64 0]) ?_ 6 _ rfl; (with_reducible repeat (first | refine blk_drewN ?_ _ | refine blk_drew ?_ | refine blk_alloc ?_ _)); refine blk_put (cs := #[.string t244, .int .i64 t245, .int .i64 t246, .int .i64 t247, .bool t248, .int .i64 0, .int .i64 0]) ?_ 5 _ rfl; (with_reducible repeat (first | refine blk_drewN ?_ _ | refine blk_drew ?_ | refine blk_alloc ?_ _)); refine blk_put (cs := #[.string t244, .int .i64 t245, .int .i64 t246, .int .i64 t247, .bool false, .int .i64 0, .int .i64 0]) ?_ 4 _ rfl; (with_reducible repeat (first | refine blk_drewN ?_ _ | refine blk_drew ?_ | refine blk_alloc ?_ _)); refine blk_put (cs := #[.string t244, .int .i64 t245, .int .i64 t246, .int .i64 0, .bool false, .int .i64 0, .int .i64 0]) ?_ 3 _ rfl; (with_reducible repeat (first | refine blk_drewN ?_ _ | refine blk_drew ?_ | refine blk_alloc ?_ _)); refine blk_put (cs := #[.string t244, .int .i64 t245, .int .i64 0, .int .i64 0, .bool false, .int .i64 0, .int .i64 0]) ?_ 2 _ rfl; (with_reducible repeat (first | refine blk_drewN ?_ _ | refine blk_drew ?_ | refine blk_alloc ?_ _)); refine blk_put (cs := #[.string t244, .int .i64 0, .int .i64 0, .int .i64 0, .bool false, .int .i64 0, .int .i64 0]) ?_ 1 _ rfl; (with_reducible repeat (first | refine blk_drewN ?_ _ | refine blk_drew ?_ | refine blk_alloc ?_ _)); refine blk_put (cs := #[.string (⟨#[]⟩ : ByteArray), .int .i64 0, .int .i64 0, .int .i64 0, .bool false, .int .i64 0, .int .i64 0]) ?_ 0 _ rfl; (with_reducible repeat (first | refine blk_drewN ?_ _ | refine blk_drew ?_ | refine blk_alloc ?_ _)); exact BK252.out) hb); replace HB := Aside0.mk (below_step (bl HB) hb); clear hb))
  go_loopg [5, 21] k (fun kq v5 v21 w' => ∃ (x5_1 : ByteArray) (x21_1 : Int) (x244000_1 : Int) (x244001_1 : Int) (x244002_1 : Int) (x244003_1 : Int) (x244004_1 : Int) (x244005_1 : Bool), v5 = .string x5_1 ∧ v21 = .int .i64 x21_1 ∧ Aside0 (code_line.l0 kq x5_1 x21_1 t253 t254 t255 x244000_1 x244001_1 x244002_1 x244003_1 x244004_1 x244005_1 l0_6 l0_7 t244 t245 t246 t247 t248 t249 t250 = some r) ∧ Aside0 (kq ≤ k) ∧ Aside0 (w'.heap[gb243]? = some (.cells #[.int .i64 x244000_1, .int .i64 x244001_1, .int .i64 x244002_1, .int .i64 x244003_1, .int .i64 x244004_1, .bool x244005_1, (.slice A0_6 l0_6.length c0_6), (.slice A0_7 l0_7.length c0_7)] 63 (0, 0))) ∧ Aside0 (w'.heap[gb252]? = some (.cells #[.string t244, .int .i64 t245, .int .i64 t246, .int .i64 t247, .bool t248, .int .i64 t249, .int .i64 t250] 72 (0, 0))) ∧ Aside0 (Below w.heap.size w w'))
  case atStart => exact ⟨((⟨#[32, 32]⟩ : ByteArray) ++ t244), (0), (a0_0), (a0_1), (a0_2), (a0_3), (a0_4), (a0_5), rs, rs, H', ⟨Nat.le_refl _⟩, ⟨bk BK243⟩, ⟨bk BK252⟩, ⟨bl HB⟩⟩
  case round =>
   clear H'
   (try clear p2); (try clear c3); (try clear c3b0); (try clear c3b1); (try clear c3b2); (try clear c4); (try clear c9); (try clear hcz10_0); (try clear hcz10_1); (try clear hcz10_2); (try clear hcz10_3); (try clear hcz10_4); (try clear hcz10_5); (try clear hcz10_6); (try clear hcz6_0); (try clear hcz6_1); (try clear hcz6_2); (try clear hcz6_3); (try clear hcz6_4); (try clear hcz6_5); (try clear hcz6_6); (try clear hcz6_7); (try clear hfz10_0); (try clear hfz10_1); (try clear hfz10_2); (try clear hfz10_3); (try clear hfz10_4); (try clear hfz10_5); (try clear hfz10_6); (try clear hfz6_0); (try clear hfz6_1); (try clear hfz6_2); (try clear hfz6_3); (try clear hfz6_4); (try clear hfz6_5); (try clear hfz6_6); (try clear hfz6_7)
   obtain ⟨x5_1, x21_1, x244000_1, x244001_1, x244002_1, x244003_1, x244004_1, x244005_1, rfl, rfl, HA, HK1, BK243, BK252, HB⟩ := hrel
   cases gk with
   | zero => exact absurd HA.out (by simp [code_line.l0])
   | succ k1 =>
    have H := HA.out
    clear HA
    simp only [code_line.l0] at H
    by_cases c12 : x21_1 < 3
    focus
     rw [if_pos c12] at H
     have c12b0 : decide (x21_1 < 3) = true := decide_eq_true c12
     clear c12
     by_cases c13 : x21_1 = (0 : Int)
     focus
      rw [if_pos c13] at H
      subst c13
      by_cases c14 : t253 = 0
      focus
       rw [if_pos c14] at H
       have c14b0 : (t253 == 0) = true := beq_iff_eq.mpr c14
       have c14b1 : (t253 != 0) = false := bne_eq_false_iff_eq.mpr c14
       clear c14
       have H' := Aside0.mk H
       clear H
       go_wp2
       go_roundg k1
       case measure => have := HK1.out; omega
       case rel => exact ⟨(x5_1), (0 + 1), (x244000_1), (x244001_1), (x244002_1), (x244003_1), (x244004_1), (x244005_1), rs, rs, H', ⟨by have := HK1.out; omega⟩, ⟨bk BK243⟩, ⟨bk BK252⟩, ⟨bl HB⟩⟩
      focus
       rw [if_neg c14] at H
       have c14b0 : (t253 == 0) = false := beq_eq_false_iff_ne.mpr c14
       have c14b1 : (t253 != 0) = true := bne_iff_ne.mpr c14
       replace H := Option.bind_eq_some_iff.mp H
       obtain ⟨tk243k258, A150, H⟩ := H
       (try dsimp only at H)
       have A15 := Aside0.mk A150
       clear A150
       replace H := Option.bind_eq_some_iff.mp H
       obtain ⟨t259, A160, H⟩ := H
       (try dsimp only at H)
       have A16 := Aside0.mk A160
       clear A160
       by_cases c17 : 1 + t259.size ≤ 9223372036854775807
       focus
        rw [if_pos c17] at H
        have c17b0 := eq_true c17
        have c17b1 : decide (1 + t259.size ≤ 9223372036854775807) = true := decide_eq_true c17
        try have c17b2 : (9223372036854775807 < 1 + t259.size) = False := eq_false (Nat.not_lt.2 c17)
        by_cases c18 : x5_1.size + ((⟨#[32]⟩ : ByteArray) ++ t259).size ≤ 9223372036854775807
        focus
         rw [if_pos c18] at H
         have c18b0 := eq_true c18
         have c18b1 : decide (x5_1.size + ((⟨#[32]⟩ : ByteArray) ++ t259).size ≤ 9223372036854775807) = true := decide_eq_true c18
         try have c18b2 : (9223372036854775807 < x5_1.size + ((⟨#[32]⟩ : ByteArray) ++ t259).size) = False := eq_false (Nat.not_lt.2 c18)
         have c18b3 : (9223372036854775807 < x5_1.size + (1 + t259.size)) = False := eq_false (by have h_ := c18; simp only [ByteArray.size_append, show (⟨#[32]⟩ : ByteArray).size = 1 from rfl] at h_; omega)
         have H' := Aside0.mk H
         clear H
        rotate_left 1
        focus
         rw [if_neg c18] at H
         exact absurd H (by simp)
       rotate_left 1
       focus
        rw [if_neg c17] at H
        exact absurd H (by simp)
     rotate_left 1
     focus
      rw [if_neg c13] at H
      have c13b0 : (x21_1 == (0 : Int)) = false := beq_eq_false_iff_ne.mpr c13
      have c13b1 : (x21_1 != (0 : Int)) = true := bne_iff_ne.mpr c13
      by_cases c22 : x21_1 = (1 : Int)
      focus
       rw [if_pos c22] at H
       subst c22
       by_cases c23 : t254 = 0
       focus
        rw [if_pos c23] at H
        have c23b0 : (t254 == 0) = true := beq_iff_eq.mpr c23
        have c23b1 : (t254 != 0) = false := bne_eq_false_iff_eq.mpr c23
        clear c23
        have H' := Aside0.mk H
        clear H
        go_wp2
        go_roundg k1
        case measure => have := HK1.out; omega
        case rel => exact ⟨(x5_1), (1 + 1), (x244000_1), (x244001_1), (x244002_1), (x244003_1), (x244004_1), (x244005_1), rs, rs, H', ⟨by have := HK1.out; omega⟩, ⟨bk BK243⟩, ⟨bk BK252⟩, ⟨bl HB⟩⟩
       focus
        rw [if_neg c23] at H
        have c23b0 : (t254 == 0) = false := beq_eq_false_iff_ne.mpr c23
        have c23b1 : (t254 != 0) = true := bne_iff_ne.mpr c23
        replace H := Option.bind_eq_some_iff.mp H
        obtain ⟨tk243k260, A240, H⟩ := H
        (try dsimp only at H)
        have A24 := Aside0.mk A240
        clear A240
        replace H := Option.bind_eq_some_iff.mp H
        obtain ⟨t261, A250, H⟩ := H
        (try dsimp only at H)
        have A25 := Aside0.mk A250
        clear A250
        by_cases c26 : 1 + t261.size ≤ 9223372036854775807
        focus
         rw [if_pos c26] at H
         have c26b0 := eq_true c26
         have c26b1 : decide (1 + t261.size ≤ 9223372036854775807) = true := decide_eq_true c26
         try have c26b2 : (9223372036854775807 < 1 + t261.size) = False := eq_false (Nat.not_lt.2 c26)
         by_cases c27 : x5_1.size + ((⟨#[32]⟩ : ByteArray) ++ t261).size ≤ 9223372036854775807
         focus
          rw [if_pos c27] at H
          have c27b0 := eq_true c27
          have c27b1 : decide (x5_1.size + ((⟨#[32]⟩ : ByteArray) ++ t261).size ≤ 9223372036854775807) = true := decide_eq_true c27
          try have c27b2 : (9223372036854775807 < x5_1.size + ((⟨#[32]⟩ : ByteArray) ++ t261).size) = False := eq_false (Nat.not_lt.2 c27)
          have c27b3 : (9223372036854775807 < x5_1.size + (1 + t261.size)) = False := eq_false (by have h_ := c27; simp only [ByteArray.size_append, show (⟨#[32]⟩ : ByteArray).size = 1 from rfl] at h_; omega)
          have H' := Aside0.mk H
          clear H
         rotate_left 1
         focus
          rw [if_neg c27] at H
          exact absurd H (by simp)
        rotate_left 1
        focus
         rw [if_neg c26] at H
         exact absurd H (by simp)
      rotate_left 1
      focus
       rw [if_neg c22] at H
       have c22b0 : (x21_1 == (1 : Int)) = false := beq_eq_false_iff_ne.mpr c22
       have c22b1 : (x21_1 != (1 : Int)) = true := bne_iff_ne.mpr c22
       by_cases c31 : x21_1 = (2 : Int)
       focus
        rw [if_pos c31] at H
        subst c31
        by_cases c32 : t255 = 0
        focus
         rw [if_pos c32] at H
         have c32b0 : (t255 == 0) = true := beq_iff_eq.mpr c32
         have c32b1 : (t255 != 0) = false := bne_eq_false_iff_eq.mpr c32
         clear c32
         have H' := Aside0.mk H
         clear H
         go_wp2
         go_roundg k1
         case measure => have := HK1.out; omega
         case rel => exact ⟨(x5_1), (2 + 1), (x244000_1), (x244001_1), (x244002_1), (x244003_1), (x244004_1), (x244005_1), rs, rs, H', ⟨by have := HK1.out; omega⟩, ⟨bk BK243⟩, ⟨bk BK252⟩, ⟨bl HB⟩⟩
        focus
         rw [if_neg c32] at H
         have c32b0 : (t255 == 0) = false := beq_eq_false_iff_ne.mpr c32
         have c32b1 : (t255 != 0) = true := bne_iff_ne.mpr c32
         replace H := Option.bind_eq_some_iff.mp H
         obtain ⟨tk243k262, A330, H⟩ := H
         (try dsimp only at H)
         have A33 := Aside0.mk A330
         clear A330
         replace H := Option.bind_eq_some_iff.mp H
         obtain ⟨t263, A340, H⟩ := H
         (try dsimp only at H)
         have A34 := Aside0.mk A340
         clear A340
         by_cases c35 : 1 + t263.size ≤ 9223372036854775807
         focus
          rw [if_pos c35] at H
          have c35b0 := eq_true c35
          have c35b1 : decide (1 + t263.size ≤ 9223372036854775807) = true := decide_eq_true c35
          try have c35b2 : (9223372036854775807 < 1 + t263.size) = False := eq_false (Nat.not_lt.2 c35)
          by_cases c36 : x5_1.size + ((⟨#[32]⟩ : ByteArray) ++ t263).size ≤ 9223372036854775807
          focus
           rw [if_pos c36] at H
           have c36b0 := eq_true c36
           have c36b1 : decide (x5_1.size + ((⟨#[32]⟩ : ByteArray) ++ t263).size ≤ 9223372036854775807) = true := decide_eq_true c36
           try have c36b2 : (9223372036854775807 < x5_1.size + ((⟨#[32]⟩ : ByteArray) ++ t263).size) = False := eq_false (Nat.not_lt.2 c36)
           have c36b3 : (9223372036854775807 < x5_1.size + (1 + t263.size)) = False := eq_false (by have h_ := c36; simp only [ByteArray.size_append, show (⟨#[32]⟩ : ByteArray).size = 1 from rfl] at h_; omega)
           have H' := Aside0.mk H
           clear H
          rotate_left 1
          focus
           rw [if_neg c36] at H
           exact absurd H (by simp)
         rotate_left 1
         focus
          rw [if_neg c35] at H
          exact absurd H (by simp)
       rotate_left 1
       focus
        rw [if_neg c31] at H
        exact absurd H (by simp)
      rotate_left 1
     rotate_left 2
    rotate_left 3
    focus
     rw [if_neg c12] at H
     have c12b0 : decide (x21_1 < 3) = false := decide_eq_false c12
     clear c12
     by_cases c40 : t248 = true
     focus
      subst c40
      have H1 : ((frac_Text.f x244004_1 x244005_1 l0_6 l0_7).bind fun bt256 => (if 1 + bt256.1.size ≤ 9223372036854775807 then (if x5_1.size + ((⟨#[32]⟩ : ByteArray) ++ bt256.1).size ≤ 9223372036854775807 then (if (x5_1 ++ ((⟨#[32]⟩ : ByteArray) ++ bt256.1)).size + 1 ≤ 9223372036854775807 then (some ((x5_1 ++ ((⟨#[32]⟩ : ByteArray) ++ bt256.1)) ++ (⟨#[10]⟩ : ByteArray))) else (none)) else (none)) else (none))) = some r := by rw [if_pos rfl] at H; exact H
      clear H
      have H := H1
      clear H1
      replace H := Option.bind_eq_some_iff.mp H
      obtain ⟨⟨t256, t257⟩, A410, H⟩ := H
      (try dsimp only at H)
      have A41 := Aside0.mk A410
      clear A410
      by_cases c42 : 1 + t256.size ≤ 9223372036854775807
      focus
       rw [if_pos c42] at H
       have c42b0 := eq_true c42
       have c42b1 : decide (1 + t256.size ≤ 9223372036854775807) = true := decide_eq_true c42
       try have c42b2 : (9223372036854775807 < 1 + t256.size) = False := eq_false (Nat.not_lt.2 c42)
       by_cases c43 : x5_1.size + ((⟨#[32]⟩ : ByteArray) ++ t256).size ≤ 9223372036854775807
       focus
        rw [if_pos c43] at H
        have c43b0 := eq_true c43
        have c43b1 : decide (x5_1.size + ((⟨#[32]⟩ : ByteArray) ++ t256).size ≤ 9223372036854775807) = true := decide_eq_true c43
        try have c43b2 : (9223372036854775807 < x5_1.size + ((⟨#[32]⟩ : ByteArray) ++ t256).size) = False := eq_false (Nat.not_lt.2 c43)
        have c43b3 : (9223372036854775807 < x5_1.size + (1 + t256.size)) = False := eq_false (by have h_ := c43; simp only [ByteArray.size_append, show (⟨#[32]⟩ : ByteArray).size = 1 from rfl] at h_; omega)
        by_cases c44 : (x5_1 ++ ((⟨#[32]⟩ : ByteArray) ++ t256)).size + 1 ≤ 9223372036854775807
        focus
         rw [if_pos c44] at H
         have c44b0 := eq_true c44
         have c44b1 : decide ((x5_1 ++ ((⟨#[32]⟩ : ByteArray) ++ t256)).size + 1 ≤ 9223372036854775807) = true := decide_eq_true c44
         try have c44b2 : (9223372036854775807 < (x5_1 ++ ((⟨#[32]⟩ : ByteArray) ++ t256)).size + 1) = False := eq_false (Nat.not_lt.2 c44)
         have c44b3 : (9223372036854775807 < x5_1.size + (1 + t256.size) + 1) = False := eq_false (by have h_ := c44; simp only [ByteArray.size_append, show (⟨#[32]⟩ : ByteArray).size = 1 from rfl] at h_; omega)
         obtain rfl := Option.some.inj H
         have hnb45 := NB252_243.out
         have hnc45 := NB243_252.out
         have hcz46_0 := blk_cell BK252.out 0
         have hcz46_1 := blk_cell BK252.out 1
         have hcz46_2 := blk_cell BK252.out 2
         have hcz46_3 := blk_cell BK252.out 3
         have hcz46_4 := blk_cell BK252.out 4
         have hcz46_5 := blk_cell BK252.out 5
         have hcz46_6 := blk_cell BK252.out 6
         have hfz46_0 := blk_frozen BK252.out 0
         have hfz46_1 := blk_frozen BK252.out 1
         have hfz46_2 := blk_frozen BK252.out 2
         have hfz46_3 := blk_frozen BK252.out 3
         have hfz46_4 := blk_frozen BK252.out 4
         have hfz46_5 := blk_frozen BK252.out 5
         have hfz46_6 := blk_frozen BK252.out 6
         have hcz47_0 := blk_cell BK243.out 0
         have hcz47_1 := blk_cell BK243.out 1
         have hcz47_2 := blk_cell BK243.out 2
         have hcz47_3 := blk_cell BK243.out 3
         have hcz47_4 := blk_cell BK243.out 4
         have hcz47_5 := blk_cell BK243.out 5
         have hcz47_6 := blk_cell BK243.out 6
         have hcz47_7 := blk_cell BK243.out 7
         have hfz47_0 := blk_frozen BK243.out 0
         have hfz47_1 := blk_frozen BK243.out 1
         have hfz47_2 := blk_frozen BK243.out 2
         have hfz47_3 := blk_frozen BK243.out 3
         have hfz47_4 := blk_frozen BK243.out 4
         have hfz47_5 := blk_frozen BK243.out 5
         have hfz47_6 := blk_frozen BK243.out 6
         have hfz47_7 := blk_frozen BK243.out 7
        rotate_left 1
        focus
         rw [if_neg c44] at H
         exact absurd H (by simp)
       rotate_left 1
       focus
        rw [if_neg c43] at H
        exact absurd H (by simp)
      rotate_left 1
      focus
       rw [if_neg c42] at H
       exact absurd H (by simp)
     rotate_left 1
     focus
      replace c40 := Bool.eq_false_iff.mpr c40
      subst c40
      have H1 : (if x5_1.size + 1 ≤ 9223372036854775807 then (some (x5_1 ++ (⟨#[10]⟩ : ByteArray))) else (none)) = some r := by rw [if_neg (show ¬ (false = true) by decide)] at H; exact H
      clear H
      have H := H1
      clear H1
      by_cases c49 : x5_1.size + 1 ≤ 9223372036854775807
      focus
       rw [if_pos c49] at H
       have c49b0 := eq_true c49
       have c49b1 : decide (x5_1.size + 1 ≤ 9223372036854775807) = true := decide_eq_true c49
       try have c49b2 : (9223372036854775807 < x5_1.size + 1) = False := eq_false (Nat.not_lt.2 c49)
       obtain rfl := Option.some.inj H
       have hnb50 := NB252_243.out
       have hnc50 := NB243_252.out
       have hcz51_0 := blk_cell BK252.out 0
       have hcz51_1 := blk_cell BK252.out 1
       have hcz51_2 := blk_cell BK252.out 2
       have hcz51_3 := blk_cell BK252.out 3
       have hcz51_4 := blk_cell BK252.out 4
       have hcz51_5 := blk_cell BK252.out 5
       have hcz51_6 := blk_cell BK252.out 6
       have hfz51_0 := blk_frozen BK252.out 0
       have hfz51_1 := blk_frozen BK252.out 1
       have hfz51_2 := blk_frozen BK252.out 2
       have hfz51_3 := blk_frozen BK252.out 3
       have hfz51_4 := blk_frozen BK252.out 4
       have hfz51_5 := blk_frozen BK252.out 5
       have hfz51_6 := blk_frozen BK252.out 6
       go_wp2
       go_ret
       exact ⟨re, bl HB⟩
      focus
       rw [if_neg c49] at H
       exact absurd H (by simp)
    rotate_left 1
    all_goals (go_wp2_with (first | (go_at_call 43; (with_reducible refine (fields_calls gb243 _).mono ?_); rintro e wq1 ⟨rfl, hb⟩; replace BK243 := Aside0.mk (blk_below (g := gb243) (o := .cells #[.int .i64 x244000_1, .int .i64 x244001_1, .int .i64 x244002_1, .int .i64 x244003_1, .int .i64 x244004_1, .bool x244005_1, .slice A0_6 l0_6.length c0_6, .slice A0_7 l0_7.length c0_7] 63 (0, 0)) (bk BK243) hb); replace BK252 := Aside0.mk (blk_below (g := gb252) (o := .cells #[.string t244, .int .i64 t245, .int .i64 t246, .int .i64 t247, .bool t248, .int .i64 t249, .int .i64 t250] 72 (0, 0)) (bk BK252) hb); replace HB := Aside0.mk (below_step (bl HB) hb); clear hb; have hnb20 := NB243_252.out; have hnc20 := NB252_243.out; have hczq1_0 := blk_cell BK243.out 0; have hczq1_1 := blk_cell BK243.out 1; have hczq1_2 := blk_cell BK243.out 2; have hczq1_3 := blk_cell BK243.out 3; have hczq1_4 := blk_cell BK243.out 4; have hczq1_5 := blk_cell BK243.out 5; have hczq1_6 := blk_cell BK243.out 6; have hczq1_7 := blk_cell BK243.out 7; have hfzq1_0 := blk_frozen BK243.out 0; have hfzq1_1 := blk_frozen BK243.out 1; have hfzq1_2 := blk_frozen BK243.out 2; have hfzq1_3 := blk_frozen BK243.out 3; have hfzq1_4 := blk_frozen BK243.out 4; have hfzq1_5 := blk_frozen BK243.out 5; have hfzq1_6 := blk_frozen BK243.out 6; have hfzq1_7 := blk_frozen BK243.out 7) | ((with_reducible refine gate_callee (f := 48) rfl ?_); refine gl 33 Tryz.func48 #[.int .i64 x244001_1] ?_; (with_reducible refine (strconv_Itoa.calls x244001_1 t259 _ A16.out).mono ?_); rintro e w' ⟨rfl, ⟨nd, rfl⟩⟩; refine ⟨_, rfl, ?_⟩) | (go_at_call 43; (with_reducible refine (fields_calls gb243 _).mono ?_); rintro e wq1 ⟨rfl, hb⟩; replace BK243 := Aside0.mk (blk_below (g := gb243) (o := .cells #[.int .i64 x244000_1, .int .i64 x244001_1, .int .i64 x244002_1, .int .i64 x244003_1, .int .i64 x244004_1, .bool x244005_1, .slice A0_6 l0_6.length c0_6, .slice A0_7 l0_7.length c0_7] 63 (0, 0)) (bk BK243) hb); replace BK252 := Aside0.mk (blk_below (g := gb252) (o := .cells #[.string t244, .int .i64 t245, .int .i64 t246, .int .i64 t247, .bool t248, .int .i64 t249, .int .i64 t250] 72 (0, 0)) (bk BK252) hb); replace HB := Aside0.mk (below_step (bl HB) hb); clear hb; have hnb29 := NB243_252.out; have hnc29 := NB252_243.out; have hczq1_0 := blk_cell BK243.out 0; have hczq1_1 := blk_cell BK243.out 1; have hczq1_2 := blk_cell BK243.out 2; have hczq1_3 := blk_cell BK243.out 3; have hczq1_4 := blk_cell BK243.out 4; have hczq1_5 := blk_cell BK243.out 5; have hczq1_6 := blk_cell BK243.out 6; have hczq1_7 := blk_cell BK243.out 7; have hfzq1_0 := blk_frozen BK243.out 0; have hfzq1_1 := blk_frozen BK243.out 1; have hfzq1_2 := blk_frozen BK243.out 2; have hfzq1_3 := blk_frozen BK243.out 3; have hfzq1_4 := blk_frozen BK243.out 4; have hfzq1_5 := blk_frozen BK243.out 5; have hfzq1_6 := blk_frozen BK243.out 6; have hfzq1_7 := blk_frozen BK243.out 7) | ((with_reducible refine gate_callee (f := 48) rfl ?_); refine gl 33 Tryz.func48 #[.int .i64 x244002_1] ?_; (with_reducible refine (strconv_Itoa.calls x244002_1 t261 _ A25.out).mono ?_); rintro e w' ⟨rfl, ⟨nd, rfl⟩⟩; refine ⟨_, rfl, ?_⟩) | (go_at_call 43; (with_reducible refine (fields_calls gb243 _).mono ?_); rintro e wq1 ⟨rfl, hb⟩; replace BK243 := Aside0.mk (blk_below (g := gb243) (o := .cells #[.int .i64 x244000_1, .int .i64 x244001_1, .int .i64 x244002_1, .int .i64 x244003_1, .int .i64 x244004_1, .bool x244005_1, .slice A0_6 l0_6.length c0_6, .slice A0_7 l0_7.length c0_7] 63 (0, 0)) (bk BK243) hb); replace BK252 := Aside0.mk (blk_below (g := gb252) (o := .cells #[.string t244, .int .i64 t245, .int .i64 t246, .int .i64 t247, .bool t248, .int .i64 t249, .int .i64 t250] 72 (0, 0)) (bk BK252) hb); replace HB := Aside0.mk (below_step (bl HB) hb); clear hb; have hnb38 := NB243_252.out; have hnc38 := NB252_243.out; have hczq1_0 := blk_cell BK243.out 0; have hczq1_1 := blk_cell BK243.out 1; have hczq1_2 := blk_cell BK243.out 2; have hczq1_3 := blk_cell BK243.out 3; have hczq1_4 := blk_cell BK243.out 4; have hczq1_5 := blk_cell BK243.out 5; have hczq1_6 := blk_cell BK243.out 6; have hczq1_7 := blk_cell BK243.out 7; have hfzq1_0 := blk_frozen BK243.out 0; have hfzq1_1 := blk_frozen BK243.out 1; have hfzq1_2 := blk_frozen BK243.out 2; have hfzq1_3 := blk_frozen BK243.out 3; have hfzq1_4 := blk_frozen BK243.out 4; have hfzq1_5 := blk_frozen BK243.out 5; have hfzq1_6 := blk_frozen BK243.out 6; have hfzq1_7 := blk_frozen BK243.out 7) | ((with_reducible refine gate_callee (f := 48) rfl ?_); refine gl 33 Tryz.func48 #[.int .i64 x244003_1] ?_; (with_reducible refine (strconv_Itoa.calls x244003_1 t263 _ A34.out).mono ?_); rintro e w' ⟨rfl, ⟨nd, rfl⟩⟩; refine ⟨_, rfl, ?_⟩) | ((with_reducible refine gate_callee (f := 107) rfl ?_); refine gl 42 Tryz.func107 #[.agg #[.int .i64 x244004_1, .bool x244005_1, .slice A0_6 l0_6.length c0_6, .slice A0_7 l0_7.length c0_7]] ?_; (with_reducible refine (frac_Text.calls x244004_1 x244005_1 _ _ l0_6 _ _ l0_7 t256 t257 _ ?side1 ?side2 ?side3 ?side4 ?side5 A41.out).mono ?_); (case side1 => exact GW.below HG.out (bl HB)); (case side2 => exact cb HR0_6 HB); (case side3 => exact HC0_6.out); (case side4 => exact cb HR0_7 HB); (case side5 => exact HC0_7.out); rintro e wq1 ⟨rfl, hb⟩; refine ⟨_, rfl, ?_⟩; replace BK243 := Aside0.mk (blk_below (g := gb243) (o := .cells #[.int .i64 x244000_1, .int .i64 x244001_1, .int .i64 x244002_1, .int .i64 x244003_1, .int .i64 x244004_1, .bool x244005_1, .slice A0_6 l0_6.length c0_6, .slice A0_7 l0_7.length c0_7] 63 (0, 0)) (bk BK243) hb); replace BK252 := Aside0.mk (blk_below (g := gb252) (o := .cells #[.string t244, .int .i64 t245, .int .i64 t246, .int .i64 t247, .bool true, .int .i64 t249, .int .i64 t250] 72 (0, 0)) (bk BK252) hb); replace HB := Aside0.mk (below_step (bl HB) hb); clear hb)))
    ·go_roundg k1
     case measure => have := HK1.out; omega
     case rel => exact ⟨(x5_1 ++ ((⟨#[32]⟩ : ByteArray) ++ t259)), (0 + 1), (x244000_1), (x244001_1), (x244002_1), (x244003_1), (x244004_1), (x244005_1), rs, rs, H', ⟨by have := HK1.out; omega⟩, ⟨bk BK243⟩, ⟨bk BK252⟩, ⟨bl HB⟩⟩
    ·go_roundg k1
     case measure => have := HK1.out; omega
     case rel => exact ⟨(x5_1 ++ ((⟨#[32]⟩ : ByteArray) ++ t261)), (1 + 1), (x244000_1), (x244001_1), (x244002_1), (x244003_1), (x244004_1), (x244005_1), rs, rs, H', ⟨by have := HK1.out; omega⟩, ⟨bk BK243⟩, ⟨bk BK252⟩, ⟨bl HB⟩⟩
    ·go_roundg k1
     case measure => have := HK1.out; omega
     case rel => exact ⟨(x5_1 ++ ((⟨#[32]⟩ : ByteArray) ++ t263)), (2 + 1), (x244000_1), (x244001_1), (x244002_1), (x244003_1), (x244004_1), (x244005_1), rs, rs, H', ⟨by have := HK1.out; omega⟩, ⟨bk BK243⟩, ⟨bk BK252⟩, ⟨bl HB⟩⟩
    ·go_ret
     exact ⟨re, bl HB⟩
 ·rw [if_neg c3] at H
  exact absurd H (by simp)
end Go.Proofs.YtbkknoipgmlcmaaGreatDoor.P

