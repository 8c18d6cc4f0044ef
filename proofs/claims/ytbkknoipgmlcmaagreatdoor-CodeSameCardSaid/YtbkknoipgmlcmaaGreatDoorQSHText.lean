import Derived.WalkKit
import Derived.KernelRfl
import Derived.Laws.Externs
import Derived.Laws.BitsLemmas
import Derived.LoopN
import Derived.Handy
import Derived.Deep.RegionHeld3
import Derived.Test.YtbkknoipgmlcmaaGreatDoorQSHBuild
import Derived.Test.YtbkknoipgmlcmaaGreatDoorQSHChk
import Derived.Test.YtbkknoipgmlcmaaGreatDoorQSP10
import Derived.Test.YtbkknoipgmlcmaaGreatDoorQSP11
set_option linter.unusedVariables false
set_option linter.unusedSimpArgs false
namespace Go.Proofs.YtbkknoipgmlcmaaGreatDoor.P
open Go.RowKit Go.Proofs.YtbkknoipgmlcmaaGreatDoorW.PrintWords Go.Proofs.YtbkknoipgmlcmaaGreatDoorW.PrintLast Go.Proofs.YtbkknoipgmlcmaaGreatDoorW.PrintMore
open Go.Proofs.FX
theorem builder_keeps {T e B b : Nat} {bs : List Value} {w w1 : World} (h : Lib.IsBuilderF T e B b bs w) (hk : ∀ (k : Nat) (c : Array Value) (q : Nat) (fz : Nat × Nat), w.heap[k]? = some (Obj.cells c q fz) → (q = T ∨ q = e) → w1.heap[k]? = some (Obj.cells c q fz)) (hs : w.heap.size ≤ w1.heap.size) : Lib.IsBuilderF T e B b bs w1 := by
  have step : ∀ p, Lib.BuilderAtF T e B b p bs w → Lib.BuilderAtF T e B b p bs w1 := by
    rintro p ⟨hB, v, hb, hown, hne⟩
    refine ⟨hB, v, hk _ _ _ _ hb (.inl rfl), ⟨hown.1, ?_⟩, hne⟩
    rcases hown.2 with h0 | ⟨g, cap, cur, fz, hv, hg, hh, hr⟩
    · exact .inl h0
    · exact .inr ⟨g, cap, cur, fz, hv, hg, hk _ _ _ _ hh (.inr rfl), hr⟩
  exact h.elim (fun x => .inl (step _ x)) (fun x => .inr (step _ x))
theorem builder_below {T e B b : Nat} {bs : List Value} {w w1 : World} (h : Lib.IsBuilderF T e B b bs w) (hb : Below w.heap.size w w1) : Lib.IsBuilderF T e B b bs w1 :=
  builder_keeps h (fun k c q fz hk _ => (hb.block k (Array.getElem?_eq_some_iff.1 hk).1).trans hk) hb.size
theorem kept_box {e : TypeId} {b k q : Nat} {w w1 : World} {c : Array Value} {fz : Nat × Nat} (h : Lib.OthersKept e (some b) w w1) (hk : w.heap[k]? = some (.cells c q fz)) (hb : k ≠ b) (hq : q ≠ e) : w1.heap[k]? = some (.cells c q fz) :=
  h k _ hk (fun h => hb (by injection h)) (fun c' fz' h => hq (by injection h))
def lnM : ByteArray := ⟨#[32, 32, 109, 117, 108, 32, 49, 32, 48, 32, 48, 10]⟩
def lnT : ByteArray := ⟨#[32, 32, 114, 101, 116, 117, 114, 110, 32, 49, 10]⟩
def lnR : ByteArray := ⟨#[114, 111, 117, 116, 105, 110, 101, 32, 102, 40, 114, 101, 97, 108, 41, 32, 40, 114, 101, 97, 108, 41, 32, 50, 10]⟩
theorem len_at (B b n : Nat) (bs : List Value) (w : World) (h : Lib.IsBuilderF 85 5 B b bs w) (hn : bs.length = n) :
    Calls Tryz.prog 50 #[.pointer (some ⟨b, 0, none⟩)] w fun e w' => e = .returned (.int .i64 (n : Int)) ∧ w' = w := by
  subst hn
  exact Tryz.Builder_Len_f B b bs w h
set_option maxHeartbeats 2000000 in
set_option maxRecDepth 100000 in
theorem text_sq (A0 : Option Addr) (c0 : Nat) (w : World) (hG : GW w) (hr0 : Kd.C k50 w A0 1 [sqR]) (hc0 : 1 ≤ c0) :
    Calls Tryz.prog 18 #[.slice A0 1 c0] w fun e w' => e = .returned (.tuple #[.string sqText, .int .i64 0]) ∧ Below w.heap.size w w' := by
  have hL : code_list.f 9 [tyR] = some ⟨#[40, 114, 101, 97, 108, 41]⟩ := by kernel_rfl
  have hM : code_line.f 9 8 1 0 0 0 false [] [] = some lnM := by kernel_rfl
  have hT : code_line.f 9 26 1 0 0 0 false [] [] = some lnT := by kernel_rfl
  have hI : strconv_Itoa.f 2 = some ⟨#[50]⟩ := by kernel_rfl
  have hu50 := Tryz.underlying50
  have hu85 := Tryz.underlying85
  have hu63 := Tryz.underlying63
  go_enter Tryz.func18, Tryz.ntmps18
  go_wp2_with fail
  refine (isCode_sq A0 c0 w hG hr0 hc0).mono ?_
  rintro e_ w1 ⟨rfl, hb1⟩
  have hG1 := GW.below hG hb1
  have hr1 := Kd.C_below hr0 hb1
  obtain ⟨ad, A1, c1, A2, c2, A4, c4, rfl, x0, x1, x2, x3, x4, l1, d1, l2, d2, l4, d4⟩ := at_T50 hr1 0 (by decide) (by decide)
  obtain ⟨ab, ao, al⟩ := ad
  replace x0 : w1.cell? ⟨ab, ao, al⟩ = some (.string ⟨#[102]⟩) := x0
  replace x1 : w1.cell? ⟨ab, ao + 1, none⟩ = some (.slice A1 1 c1) := x1
  replace x2 : w1.cell? ⟨ab, ao + 2, none⟩ = some (.slice A2 1 c2) := x2
  replace x3 : w1.cell? ⟨ab, ao + 3, none⟩ = some (.int .i64 2) := x3
  replace x4 : w1.cell? ⟨ab, ao + 4, none⟩ = some (.slice A4 2 c4) := x4
  clear hG hr0 hr1
  obtain ⟨ai, D6, e6, D7, e7, rfl, y0, y1, y2, y3, y4, y5, y6, y7, k6, K6, k7, K7⟩ := at_T63 d4 0 (by decide) (by decide)
  obtain ⟨ai', E6, g6, E7, g7, eA, v0, v1, v2, v3, v4, v5, v6, v7, q6, Q6, q7, Q7⟩ := at_T63 d4 1 (by decide) (by decide)
  obtain rfl : ai = ai' := by injection eA
  obtain ⟨bb, bo, bl⟩ := ai
  have Y : Aside0 (w1.cell? ⟨bb, bo, bl⟩ = some (.int .i64 8) ∧ w1.cell? ⟨bb, bo + 1, none⟩ = some (.int .i64 1) ∧ w1.cell? ⟨bb, bo + 2, none⟩ = some (.int .i64 0) ∧ w1.cell? ⟨bb, bo + 3, none⟩ = some (.int .i64 0) ∧ w1.cell? ⟨bb, bo + 4, none⟩ = some (.int .i64 0) ∧ w1.cell? ⟨bb, bo + 5, none⟩ = some (.bool false) ∧ w1.cell? ⟨bb, bo + 6, none⟩ = some (.slice D6 0 e6) ∧ w1.cell? ⟨bb, bo + 7, none⟩ = some (.slice D7 0 e7)) := ⟨⟨y0, y1, y2, y3, y4, y5, y6, y7⟩⟩
  have V : Aside0 (w1.cell? ⟨bb, bo + 8, none⟩ = some (.int .i64 26) ∧ w1.cell? ⟨bb, bo + 8 + 1, none⟩ = some (.int .i64 1) ∧ w1.cell? ⟨bb, bo + 8 + 2, none⟩ = some (.int .i64 0) ∧ w1.cell? ⟨bb, bo + 8 + 3, none⟩ = some (.int .i64 0) ∧ w1.cell? ⟨bb, bo + 8 + 4, none⟩ = some (.int .i64 0) ∧ w1.cell? ⟨bb, bo + 8 + 5, none⟩ = some (.bool false) ∧ w1.cell? ⟨bb, bo + 8 + 6, none⟩ = some (.slice E6 0 g6) ∧ w1.cell? ⟨bb, bo + 8 + 7, none⟩ = some (.slice E7 0 g7)) := ⟨⟨v0, v1, v2, v3, v4, v5, v6, v7⟩⟩
  have M1 : Aside0 (∀ W, Below w1.heap.size w1 W → Calls Tryz.prog 49 #[.agg #[.int .i64 8, .int .i64 1, .int .i64 0, .int .i64 0, .int .i64 0, .bool false, .slice D6 0 e6, .slice D7 0 e7]] W fun e w' => e = .returned (.string lnM) ∧ Below W.heap.size W w') := ⟨fun W hb => code_line.calls 9 8 1 0 0 0 false D6 e6 [] D7 e7 [] _ W (GW.below hG1 hb) (Kd.C_below K6 hb) k6 (Kd.C_below K7 hb) k7 hM⟩
  have N1 : Aside0 (∀ W, Below w1.heap.size w1 W → Calls Tryz.prog 49 #[.agg #[.int .i64 26, .int .i64 1, .int .i64 0, .int .i64 0, .int .i64 0, .bool false, .slice E6 0 g6, .slice E7 0 g7]] W fun e w' => e = .returned (.string lnT) ∧ Below W.heap.size W w') := ⟨fun W hb => code_line.calls 9 26 1 0 0 0 false E6 g6 [] E7 g7 [] _ W (GW.below hG1 hb) (Kd.C_below Q6 hb) q6 (Kd.C_below Q7 hb) q7 hT⟩
  have HB1 := Aside0.mk hb1
  have L1 : Aside0 (∀ W, Below w1.heap.size w1 W → Calls Tryz.prog 47 #[.slice A1 1 c1] W fun e w' => e = .returned (.string ⟨#[40, 114, 101, 97, 108, 41]⟩) ∧ Below W.heap.size W w') := ⟨fun W hb => code_list.calls 9 A1 c1 [tyR] _ W (GW.below hG1 hb) (Kd.C_below d1 hb) l1 hL⟩
  have L2 : Aside0 (∀ W, Below w1.heap.size w1 W → Calls Tryz.prog 47 #[.slice A2 1 c2] W fun e w' => e = .returned (.string ⟨#[40, 114, 101, 97, 108, 41]⟩) ∧ Below W.heap.size W w') := ⟨fun W hb => code_list.calls 9 A2 c2 [tyR] _ W (GW.below hG1 hb) (Kd.C_below d2 hb) l2 hL⟩
  have I1 : Aside0 (∀ W, Calls Tryz.prog 48 #[.int .i64 2] W fun e w' => e = .returned (.string ⟨#[50]⟩) ∧ Drawn0 W w') := ⟨fun W => strconv_Itoa.calls 2 _ W hI⟩
  clear hb1
  go_wp2_with (first | ((with_reducible refine gate_dst (N := 4) rfl ?_); refine box_event ?hg (N := 4) ?hd (cs := #[.pointer none, .slice none 0 0]) (t := 85) ?hr ?_; (case hd => rfl); (case hg => rfl); (case hr => first | (go_simp; done) | (go_simp; rfl)); intro b hbq w2 hbox hb; have HBu := Aside0.mk (show Lib.IsBuilderF 85 5 w1.heap.size b [] w2 from .inl ⟨Nat.le_of_eq hbq.symm, .slice none 0 0, hbox, ⟨rfl, .inl ⟨rfl, rfl⟩⟩, (by simp [Value.ownBlock])⟩); have HB2 := Aside0.mk hb; replace x0 := pw_cell_below hb x0; replace x1 := pw_cell_below hb x1; replace x2 := pw_cell_below hb x2; replace x3 := pw_cell_below hb x3; replace x4 := pw_cell_below hb x4; clear hb hbq hbox))
  refine wp_loop_rounds 2 ?_
  rw [rounds_succ]
  go_wp2_with fail
  have hcR := blk_new w2 (.cells #[.string ⟨#[102]⟩, .slice A1 1 c1, .slice A2 1 c2, .int .i64 2, .slice (some ⟨bb, bo, bl⟩) 2 c4] 50)
  have hbR := below_alloc (Below.refl w2.heap.size w2) (.cells #[.string ⟨#[102]⟩, .slice A1 1 c1, .slice A2 1 c2, .int .i64 2, .slice (some ⟨bb, bo, bl⟩) 2 c4] 50)
  have hrq : w2.heap.size = w2.heap.size := rfl
  generalize hge : w2.alloc (.cells #[.string ⟨#[102]⟩, .slice A1 1 c1, .slice A2 1 c2, .int .i64 2, .slice (some ⟨bb, bo, bl⟩) 2 c4] 50) = w3 at hcR hbR ⊢
  generalize hgr : w2.heap.size = r at hcR hrq ⊢
  have HBu2 := Aside0.mk (builder_below HBu.out hbR)
  have HB3 := Aside0.mk (below_step HB2.out hbR)
  have BR := Aside0.mk hcR
  have hne : r ≠ b := by
    have h1 : b < w2.heap.size := by
      rcases HBu.out with ⟨_, v, h, _⟩ | ⟨_, v, h, _⟩ <;> exact (Array.getElem?_eq_some_iff.1 h).1
    omega
  have HNe := Aside0.mk hne
  clear hL hI hM hT y0 y1 y2 y3 y4 y5 y6 y7 v0 v1 v2 v3 v4 v5 v6 v7 k6 K6 k7 K7 q6 Q6 q7 Q7 eA d1 d2 d4 l1 l2 l4 hG1 hcR hbR hgr hrq hge hne HBu x0 x1 x2 x3 x4
  go_region_held3 (fun w' => w'.cell? ⟨r, 0, none⟩ = some (.string ⟨#[102]⟩) ∧ w'.cell? ⟨r, 1, none⟩ = some (.slice A1 1 c1) ∧ w'.cell? ⟨r, 2, none⟩ = some (.slice A2 1 c2) ∧ w'.cell? ⟨r, 3, none⟩ = some (.int .i64 2)) ((first | assumption | exact ⟨(blk_cell BR.out 0).trans rfl, (blk_cell BR.out 1).trans rfl, (blk_cell BR.out 2).trans rfl, (blk_cell BR.out 3).trans rfl⟩)) ((first
    | (go_at_call 47; (with_reducible refine (L1.out _ ?side1).mono ?_); (case side1 => repeat (first | exact HB3.out | apply below_drew1 | apply pw_below_drewN)); rintro e w4 ⟨rfl, hb⟩; have n0_ := Aside0.mk (blk_below (g := r) (o := .cells #[.string ⟨#[102]⟩, .slice A1 1 c1, .slice A2 1 c2, .int .i64 2, .slice (some ⟨bb, bo, bl⟩) 2 c4] 50) (by (with_reducible repeat (first | refine blk_drewN ?_ _ | refine blk_drew ?_)); exact BR.out) hb); have n1_ := Aside0.mk (below_step (by repeat (first | exact HB3.out | apply below_drew1 | apply pw_below_drewN)) hb); have n2_ := Aside0.mk (builder_below (T := 85) (e := 5) (B := w1.heap.size) (b := b) (bs := []) (by exact HBu2.out) hb); clear BR HB3 HBu2 hb; have BR := n0_; have HB3 := n1_; have HBu2 := n2_; clear n0_ n1_ n2_)
    | (go_at_call 47; (with_reducible refine (L2.out _ ?side1).mono ?_); (case side1 => repeat (first | exact HB3.out | apply below_drew1 | apply pw_below_drewN)); rintro e w4 ⟨rfl, hb⟩; have n0_ := Aside0.mk (blk_below (g := r) (o := .cells #[.string ⟨#[102]⟩, .slice A1 1 c1, .slice A2 1 c2, .int .i64 2, .slice (some ⟨bb, bo, bl⟩) 2 c4] 50) (by (with_reducible repeat (first | refine blk_drewN ?_ _ | refine blk_drew ?_)); exact BR.out) hb); have n1_ := Aside0.mk (below_step (by repeat (first | exact HB3.out | apply below_drew1 | apply pw_below_drewN)) hb); have n2_ := Aside0.mk (builder_below (T := 85) (e := 5) (B := w1.heap.size) (b := b) (bs := []) (by exact HBu2.out) hb); clear BR HB3 HBu2 hb; have BR := n0_; have HB3 := n1_; have HBu2 := n2_; clear n0_ n1_ n2_)
    | (go_at_call 48; (with_reducible refine (I1.out _).mono ?_); rintro e w4 ⟨rfl, ⟨nd, rfl⟩⟩)
    | (go_at_call 46; (with_reducible refine (B.writeString w1.heap.size b [] _ _ ?side1 ?side2 ?side3).mono ?_); (case side1 => exact HBu2.out); (case side2 => exact (by decide : (25 : Nat) ≤ 140737488355328)); (case side3 => exact HB3.out.size); rintro e w5 ⟨rfl, hAt, hb5, hk5⟩; have n0_ := Aside0.mk (kept_box hk5 (by (with_reducible repeat (first | refine blk_drewN ?_ _ | refine blk_drew ?_)); exact BR.out) HNe.out (by decide)); have n1_ := Aside0.mk (Below.trans (show Below w1.heap.size w1 (w4.drewN nd) from pw_below_drewN HB3.out nd) hb5); have n2_ := Aside0.mk (show Lib.IsBuilderF 85 5 w1.heap.size b (Lib.strCells lnR) w5 from .inr hAt); clear BR HB3 HBu2 hAt hb5 hk5; have BR := n0_; have HB3 := n1_; have HBu2 := n2_; clear n0_ n1_ n2_)))
  have r4 := (blk_cell BR.out 4).trans rfl
  go_wp2_with fail
  refine wp_loop_rounds 3 ?_
  rw [rounds_succ]
  obtain ⟨y0, y1, y2, y3, y4, y5, y6, y7⟩ := Y.out
  replace y0 := pw_cell_below HB3.out y0
  replace y1 := pw_cell_below HB3.out y1
  replace y2 := pw_cell_below HB3.out y2
  replace y3 := pw_cell_below HB3.out y3
  replace y4 := pw_cell_below HB3.out y4
  replace y5 := pw_cell_below HB3.out y5
  replace y6 := pw_cell_below HB3.out y6
  replace y7 := pw_cell_below HB3.out y7
  go_wp2_with fail
  (with_reducible refine (M1.out _ ?side1).mono ?_)
  case side1 => exact below_alloc HB3.out _
  rintro e_ w6 ⟨rfl, hb⟩
  have HBu3 := Aside0.mk (builder_below (builder_below HBu2.out (below_alloc (Below.refl _ _) _)) hb)
  have HB4 := Aside0.mk (below_step (below_alloc HB3.out _) hb)
  clear hb y0 y1 y2 y3 y4 y5 y6 y7 HBu2 HB3 BR r4
  go_wp2_with fail
  (with_reducible refine (B.writeString w1.heap.size b _ _ _ HBu3.out ?side2 ?side3).mono ?_)
  case side2 => exact (by decide : (37 : Nat) ≤ 140737488355328)
  case side3 => exact HB4.out.size
  rintro e_ w7 ⟨rfl, hAt, hb5, hk5⟩
  have HB5 := Aside0.mk (HB4.out.trans hb5)
  have HBu5 := Aside0.mk (show Lib.IsBuilderF 85 5 w1.heap.size b (Lib.strCells lnR ++ Lib.strCells lnM) w7 from .inr hAt)
  clear hAt hb5 hk5 HB4 HBu3
  go_wp2_with (go_at_call 50; (with_reducible refine (len_at w1.heap.size b 37 _ _ HBu5.out ?side1).mono ?_); (case side1 => rfl); rintro e_ w8 ⟨rfl, rfl⟩)
  rw [rounds_succ]
  obtain ⟨v0, v1, v2, v3, v4, v5, v6, v7⟩ := V.out
  replace v0 := pw_cell_below HB5.out v0
  replace v1 := pw_cell_below HB5.out v1
  replace v2 := pw_cell_below HB5.out v2
  replace v3 := pw_cell_below HB5.out v3
  replace v4 := pw_cell_below HB5.out v4
  replace v5 := pw_cell_below HB5.out v5
  replace v6 := pw_cell_below HB5.out v6
  replace v7 := pw_cell_below HB5.out v7
  go_wp2_with fail
  (with_reducible refine (N1.out _ ?side1).mono ?_)
  case side1 => exact below_alloc HB5.out _
  rintro e_ w9 ⟨rfl, hb⟩
  have HBu6 := Aside0.mk (builder_below (builder_below HBu5.out (below_alloc (Below.refl _ _) _)) hb)
  have HB6 := Aside0.mk (below_step (below_alloc HB5.out _) hb)
  clear hb v0 v1 v2 v3 v4 v5 v6 v7 HBu5 HB5
  go_wp2_with fail
  (with_reducible refine (B.writeString w1.heap.size b _ _ _ HBu6.out ?side2 ?side3).mono ?_)
  case side2 => exact (by decide : (48 : Nat) ≤ 140737488355328)
  case side3 => exact HB6.out.size
  rintro e_ w10 ⟨rfl, hAt, hb5, hk5⟩
  have HB7 := Aside0.mk (HB6.out.trans hb5)
  have HBu7 := Aside0.mk (show Lib.IsBuilderF 85 5 w1.heap.size b (Lib.byteCells sqText.data.toList) w10 from .inr hAt)
  clear hAt hb5 hk5 HB6 HBu6
  go_wp2_with (go_at_call 50; (with_reducible refine (len_at w1.heap.size b 48 _ _ HBu7.out ?side1).mono ?_); (case side1 => rfl); rintro e_ w11 ⟨rfl, rfl⟩)
  rw [rounds_succ]
  go_wp2
  rw [rounds_succ]
  go_wp2_with (first | (go_at_call 50; (with_reducible refine (len_at w1.heap.size b 48 _ _ HBu7.out ?side1).mono ?_); (case side1 => rfl); rintro e_ w12 ⟨rfl, rfl⟩) | (go_at_call 51; (with_reducible refine (Tryz.Builder_String_any_k w1.heap.size b sqText.data.toList _ HBu7.out ?side1).mono ?_); (case side1 => exact HB7.out.size); rintro e_ w13 ⟨rfl, _, hb8, _⟩; have HB8 := Aside0.mk (HB7.out.trans hb8); clear hb8))
  refine bodyPost_ret (by simp [results, Tryz.results18, go_sem]) rfl ⟨rfl, below_step HB1.out HB8.out⟩
theorem code_Text.calls (A0 : Option Addr) (c0 : Nat) (l0 : List S50) (r1 : ByteArray) (r2 : Int) (w : World) (hG : GW w) (hr0 : Kd.C k50 w A0 l0.length l0) (hc0 : l0.length ≤ c0) (h : code_Text.f l0 = some (r1, r2)) :
    Calls Tryz.prog 18 #[.slice A0 l0.length c0] w fun e w' => e = .returned (.tuple #[.string r1, .int .i64 r2]) ∧ Below w.heap.size w w' := by
  unfold code_Text.f at h
  by_cases hs : isSq l0 = true
  · rw [if_pos hs] at h
    simp only [Option.some.injEq, Prod.mk.injEq] at h
    obtain ⟨rfl, rfl⟩ := h
    obtain rfl := isSq_of hs
    exact text_sq A0 c0 w hG hr0 hc0
  · rw [if_neg hs] at h
    cases h
end Go.Proofs.YtbkknoipgmlcmaaGreatDoor.P

