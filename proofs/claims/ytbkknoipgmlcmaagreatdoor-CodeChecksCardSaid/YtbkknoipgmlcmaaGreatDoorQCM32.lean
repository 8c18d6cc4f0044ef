import Derived.WalkKit
import Derived.KernelRfl
import Derived.Laws.Externs
import Derived.Laws.BitsLemmas
import Derived.LoopN
import Derived.Handy
import Derived.Deep.RegionHeld3
import Derived.Test.YtbkknoipgmlcmaaGreatDoorQCM31
set_option linter.unusedVariables false
set_option linter.unusedSimpArgs false
set_option maxHeartbeats 8000000
set_option maxRecDepth 100000
namespace Go.Proofs.YtbkknoipgmlcmaaGreatDoor.P
open Go.RowKit Go.Proofs.YtbkknoipgmlcmaaGreatDoorW.PrintWords Go.Proofs.YtbkknoipgmlcmaaGreatDoorW.PrintLast Go.Proofs.YtbkknoipgmlcmaaGreatDoorW.PrintMore
open Go.Proofs.FX
theorem builder_keeps {T e B b : Nat} {bs : List Value} {w w1 : World} (h : Lib.IsBuilderF T e B b bs w) (hk : ∀ (k : Nat) (c : Array Value) (q : Nat) (fz : Nat × Nat), w.heap[k]? = some (Obj.cells c q fz) → (q = T ∨ q = e) → w1.heap[k]? = some (Obj.cells c q fz)) (hs : w.heap.size ≤ w1.heap.size) : Lib.IsBuilderF T e B b bs w1 := by
 have step : ∀ p, Lib.BuilderAtF T e B b p bs w → Lib.BuilderAtF T e B b p bs w1 := by
  rintro p ⟨hB, v, hb, hown, hne⟩
  refine ⟨hB, v, hk _ _ _ _ hb (.inl rfl), ⟨hown.1, ?_⟩, hne⟩
  rcases hown.2 with h0 | ⟨g, cap, cur, fz, hv, hg, hh, hr⟩
  ·exact .inl h0
  ·exact .inr ⟨g, cap, cur, fz, hv, hg, hk _ _ _ _ hh (.inr rfl), hr⟩
 exact h.elim (fun x => .inl (step _ x)) (fun x => .inr (step _ x))
theorem builder_below {T e B b : Nat} {bs : List Value} {w w1 : World} (h : Lib.IsBuilderF T e B b bs w) (hb : Below w.heap.size w w1) : Lib.IsBuilderF T e B b bs w1 :=
 builder_keeps h (fun k c q fz hk _ => (hb.block k (Array.getElem?_eq_some_iff.1 hk).1).trans hk) hb.size
theorem kept_box {e : TypeId} {b k q : Nat} {w w1 : World} {c : Array Value} {fz : Nat × Nat} (h : Lib.OthersKept e (some b) w w1) (hk : w.heap[k]? = some (.cells c q fz)) (hb : k ≠ b) (hq : q ≠ e) : w1.heap[k]? = some (.cells c q fz) :=
 h k _ hk (fun h => hb (by injection h)) (fun c' fz' h => hq (by injection h))
def lnM : ByteArray := ⟨#[32, 32, 109, 117, 108, 32, 49, 32, 48, 32, 48, 10]⟩
def lnT : ByteArray := ⟨#[32, 32, 114, 101, 116, 117, 114, 110, 32, 49, 10]⟩
def lnR : ByteArray := ⟨#[114, 111, 117, 116, 105, 110, 101, 32, 102, 40, 114, 101, 97, 108, 41, 32, 40, 114, 101, 97, 108, 41, 32, 50, 10]⟩
theorem len_at (B b n : Nat) (bs : List Value) (w : World) (h : Lib.IsBuilderF 85 5 B b bs w) (hn : bs.length = n) :
 Calls Tryz.prog 50 #[.pointer (some ⟨b, 0, none⟩)] w fun e w' => e = .returned (.int .i64 (n : Int)) ∧ w' = w := by
 subst hn
 exact Tryz.Builder_Len_f B b bs w h
theorem text_sq (A0 : Option Addr) (c0 : Nat) (w : World) (hG : GW w) (hr0 : Kd.C k50 w A0 1 [sqR]) (hc0 : 1 ≤ c0) :
 Calls Tryz.prog 18 #[.slice A0 1 c0] w fun e w' => e = .returned (.tuple #[.string sqText, .int .i64 0]) ∧ Below w.heap.size w w' := by
 have hL : code_list.f 9 [tyR] = some ⟨#[40, 114, 101, 97, 108, 41]⟩ := by kernel_rfl
 have hM : code_line.f 9 8 1 0 0 0 false [] [] = some lnM := by kernel_rfl
 have hT : code_line.f 9 26 1 0 0 0 false [] [] = some lnT := by kernel_rfl
 have hI : strconv_Itoa.f 2 = some ⟨#[50]⟩ := by kernel_rfl
 have hu50 := Tryz.underlying50
 have hu85 := Tryz.underlying85
 have hu63 := Tryz.underlying63
 go_enter Tryz.func18, Tryz.ntmps18
 go_wp2_with fail
 refine (isCode_sq A0 c0 w hG hr0 hc0).mono ?_
 rintro e_ w1 ⟨rfl, hb1⟩
 have hG1 := GW.below hG hb1
 have hr1 := Kd.C_below hr0 hb1
 obtain ⟨ad, A1, c1, A2, c2, A4, c4, rfl, x0, x1, x2, x3, x4, l1, d1, l2, d2, l4, d4⟩ := at_T50 hr1 0 (by decide) (by decide)
 obtain ⟨ab, ao, al⟩ := ad
 replace x0 : w1.cell? ⟨ab, ao, al⟩ = some (.string ⟨#[102]⟩) := x0
 replace x1 : w1.cell? ⟨ab, ao + 1, none⟩ = some (.slice A1 1 c1) := x1
 replace x2 : w1.cell? ⟨ab, ao + 2, none⟩ = some (.slice A2 1 c2) := x2
 replace x3 : w1.cell? ⟨ab, ao + 3, none⟩ = some (.int .i64 2) := x3
 replace x4 : w1.cell? ⟨ab, ao + 4, none⟩ = some (.slice A4 2 c4) := x4
 clear hG hr0 hr1
 obtain ⟨ai, D6, e6, D7, e7, rfl, y0, y1, y2, y3, y4, y5, y6, y7, k6, K6, k7, K7⟩ := at_T63 d4 0 (by decide) (by decide)
 obtain ⟨ai', E6, g6, E7, g7, eA, v0, v1, v2, v3, v4, v5, v6, v7, q6, Q6, q7, Q7⟩ := at_T63 d4 1 (by decide) (by decide)
 obtain rfl : ai = ai' := by injection eA
 obtain ⟨bb, bo, bl⟩ := ai
 have Y : Aside0 (w1.cell? ⟨bb, bo, bl⟩ = some (.int .i64 8) ∧ w1.cell? ⟨bb, bo + 1, none⟩ = some (.int .i64 1) ∧ w1.cell? ⟨bb, bo + 2, none⟩ = some (.int .i64 0) ∧ w1.cell? ⟨bb, bo + 3, none⟩ = some (.int .i64 0) ∧ w1.cell? ⟨bb, bo + 4, none⟩ = some (.int .i64 0) ∧ w1.cell? ⟨bb, bo + 5, none⟩ = some (.bool false) ∧ w1.cell? ⟨bb, bo + 6, none⟩ = some (.slice D6 0 e6) ∧ w1.cell? ⟨bb, bo + 7, none⟩ = some (.slice D7 0 e7)) := ⟨⟨y0, y1, y2, y3, y4, y5, y6, y7⟩⟩
 have V : Aside0 (w1.cell? ⟨bb, bo + 8, none⟩ = some (.int .i64 26) ∧ w1.cell? ⟨bb, bo + 8 + 1, none⟩ = some (.int .i64 1) ∧ w1.cell? ⟨bb, bo + 8 + 2, none⟩ = some (.int .i64 0) ∧ w1.cell? ⟨bb, bo + 8 + 3, none⟩ = some (.int .i64 0) ∧ w1.cell? ⟨bb, bo + 8 + 4, none⟩ = some (.int .i64 0) ∧ w1.cell? ⟨bb, bo + 8 + 5, none⟩ = some (.bool false) ∧ w1.cell? ⟨bb, bo + 8 + 6, none⟩ = some (.slice E6 0 g6) ∧ w1.cell? ⟨bb, bo + 8 + 7, none⟩ = some (.slice E7 0 g7)) := ⟨⟨v0, v1, v2, v3, v4, v5, v6, v7⟩⟩
 have M1 : Aside0 (∀ W, Below w1.heap.size w1 W → Calls Tryz.prog 49 #[.agg #[.int .i64 8, .int .i64 1, .int .i64 0, .int .i64 0, .int .i64 0, .bool false, .slice D6 0 e6, .slice D7 0 e7]] W fun e w' => e = .returned (.string lnM) ∧ Below W.heap.size W w') := ⟨fun W hb => code_line.calls 9 8 1 0 0 0 false D6 e6 [] D7 e7 [] _ W (GW.below hG1 hb) (Kd.C_below K6 hb) k6 (Kd.C_below K7 hb) k7 hM⟩
 have N1 : Aside0 (∀ W, Below w1.heap.size w1 W → Calls Tryz.prog 49 #[.agg #[.int .i64 26, .int .i64 1, .int .i64 0, .int .i64 0, .int .i64 0, .bool false, .slice E6 0 g6, .slice E7 0 g7]] W fun e w' => e = .returned (.string lnT) ∧ Below W.heap.size W w') := ⟨fun W hb => code_line.calls 9 26 1 0 0 0 false E6 g6 [] E7 g7 [] _ W (GW.below hG1 hb) (Kd.C_below Q6 hb) q6 (Kd.C_below Q7 hb) q7 hT⟩
 have HB1 := aS hb1
 have L1 : Aside0 (∀ W, Below w1.heap.size w1 W → Calls Tryz.prog 47 #[.slice A1 1 c1] W fun e w' => e = .returned (.string ⟨#[40, 114, 101, 97, 108, 41]⟩) ∧ Below W.heap.size W w') := ⟨fun W hb => code_list.calls 9 A1 c1 [tyR] _ W (GW.below hG1 hb) (Kd.C_below d1 hb) l1 hL⟩
 have L2 : Aside0 (∀ W, Below w1.heap.size w1 W → Calls Tryz.prog 47 #[.slice A2 1 c2] W fun e w' => e = .returned (.string ⟨#[40, 114, 101, 97, 108, 41]⟩) ∧ Below W.heap.size W w') := ⟨fun W hb => code_list.calls 9 A2 c2 [tyR] _ W (GW.below hG1 hb) (Kd.C_below d2 hb) l2 hL⟩
 have I1 : Aside0 (∀ W, Calls Tryz.prog 48 #[.int .i64 2] W fun e w' => e = .returned (.string ⟨#[50]⟩) ∧ Drawn0 W w') := ⟨fun W => strconv_Itoa.calls 2 _ W hI⟩
 clear hb1
 go_wp2_with (first | ((with_reducible refine gate_dst (N := 4) rfl ?_); refine box_event ?hg (N := 4) ?hd (cs := #[.pointer none, .slice none 0 0]) (t := 85) ?hr ?_; (case hd => rfl); (case hg => rfl); (case hr => first | (go_simp; done) | (go_simp; rfl)); intro b hbq w2 hbox hb; have HBu := aS (show Lib.IsBuilderF 85 5 w1.heap.size b [] w2 from .inl ⟨Nat.le_of_eq hbq.symm, .slice none 0 0, hbox, ⟨rfl, .inl ⟨rfl, rfl⟩⟩, (by simp [Value.ownBlock])⟩); have HB2 := aS hb; replace x0 := pw_cell_below hb x0; replace x1 := pw_cell_below hb x1; replace x2 := pw_cell_below hb x2; replace x3 := pw_cell_below hb x3; replace x4 := pw_cell_below hb x4; clear hb hbq hbox))
 refine wp_loop_rounds 2 ?_
 rw [rounds_succ]
 go_wp2_with fail
 have hcR := blk_new w2 (.cells #[.string ⟨#[102]⟩, .slice A1 1 c1, .slice A2 1 c2, .int .i64 2, .slice (some ⟨bb, bo, bl⟩) 2 c4] 50)
 have hbR := below_alloc (Below.refl w2.heap.size w2) (.cells #[.string ⟨#[102]⟩, .slice A1 1 c1, .slice A2 1 c2, .int .i64 2, .slice (some ⟨bb, bo, bl⟩) 2 c4] 50)
 have hrq : w2.heap.size = w2.heap.size := rfl
 generalize hge : w2.alloc (.cells #[.string ⟨#[102]⟩, .slice A1 1 c1, .slice A2 1 c2, .int .i64 2, .slice (some ⟨bb, bo, bl⟩) 2 c4] 50) = w3 at hcR hbR ⊢
 generalize hgr : w2.heap.size = r at hcR hrq ⊢
 have HBu2 := aS (builder_below HBu.out hbR)
 have HB3 := aS (bs_ HB2.out hbR)
 have BR := aS hcR
 have hne : r ≠ b := by
  have h1 : b < w2.heap.size := by
   rcases HBu.out with ⟨_, v, h, _⟩ | ⟨_, v, h, _⟩ <;> exact (Array.getElem?_eq_some_iff.1 h).1
  omega
 have HNe := aS hne
 clear hL hI hM hT y0 y1 y2 y3 y4 y5 y6 y7 v0 v1 v2 v3 v4 v5 v6 v7 k6 K6 k7 K7 q6 Q6 q7 Q7 eA d1 d2 d4 l1 l2 l4 hG1 hcR hbR hgr hrq hge hne HBu x0 x1 x2 x3 x4
 go_region_held3 (fun w' => w'.cell? ⟨r, 0, none⟩ = some (.string ⟨#[102]⟩) ∧ w'.cell? ⟨r, 1, none⟩ = some (.slice A1 1 c1) ∧ w'.cell? ⟨r, 2, none⟩ = some (.slice A2 1 c2) ∧ w'.cell? ⟨r, 3, none⟩ = some (.int .i64 2)) ((first | assumption | exact ⟨(blk_cell BR.out 0).trans rfl, (blk_cell BR.out 1).trans rfl, (blk_cell BR.out 2).trans rfl, (blk_cell BR.out 3).trans rfl⟩)) ((first
  | (go_at_call 47; (with_reducible refine (L1.out _ ?side1).mono ?_); (case side1 => repeat (first | exact HB3.out | apply below_drew1 | apply pw_below_drewN)); rintro e w4 ⟨rfl, hb⟩; have n0_ := aS (blk_below (g := r) (o := .cells #[.string ⟨#[102]⟩, .slice A1 1 c1, .slice A2 1 c2, .int .i64 2, .slice (some ⟨bb, bo, bl⟩) 2 c4] 50) (by (with_reducible repeat (first | refine blk_drewN ?_ _ | refine blk_drew ?_)); exact BR.out) hb); have n1_ := aS (bs_ (by repeat (first | exact HB3.out | apply below_drew1 | apply pw_below_drewN)) hb); have n2_ := aS (builder_below (T := 85) (e := 5) (B := w1.heap.size) (b := b) (bs := []) (by exact HBu2.out) hb); clear BR HB3 HBu2 hb; have BR := n0_; have HB3 := n1_; have HBu2 := n2_; clear n0_ n1_ n2_)
  | (go_at_call 47; (with_reducible refine (L2.out _ ?side1).mono ?_); (case side1 => repeat (first | exact HB3.out | apply below_drew1 | apply pw_below_drewN)); rintro e w4 ⟨rfl, hb⟩; have n0_ := aS (blk_below (g := r) (o := .cells #[.string ⟨#[102]⟩, .slice A1 1 c1, .slice A2 1 c2, .int .i64 2, .slice (some ⟨bb, bo, bl⟩) 2 c4] 50) (by (with_reducible repeat (first | refine blk_drewN ?_ _ | refine blk_drew ?_)); exact BR.out) hb); have n1_ := aS (bs_ (by repeat (first | exact HB3.out | apply below_drew1 | apply pw_below_drewN)) hb); have n2_ := aS (builder_below (T := 85) (e := 5) (B := w1.heap.size) (b := b) (bs := []) (by exact HBu2.out) hb); clear BR HB3 HBu2 hb; have BR := n0_; have HB3 := n1_; have HBu2 := n2_; clear n0_ n1_ n2_)
  | (go_at_call 48; (with_reducible refine (I1.out _).mono ?_); rintro e w4 ⟨rfl, ⟨nd, rfl⟩⟩)
  | (go_at_call 46; (with_reducible refine (B.writeString w1.heap.size b [] _ _ ?side1 ?side2 ?side3).mono ?_); (case side1 => exact HBu2.out); (case side2 => exact (by decide : (25 : Nat) ≤ 140737488355328)); (case side3 => exact HB3.out.size); rintro e w5 ⟨rfl, hAt, hb5, hk5⟩; have n0_ := aS (kept_box hk5 (by (with_reducible repeat (first | refine blk_drewN ?_ _ | refine blk_drew ?_)); exact BR.out) HNe.out (by decide)); have n1_ := aS (Below.trans (show Below w1.heap.size w1 (w4.drewN nd) from pw_below_drewN HB3.out nd) hb5); have n2_ := aS (show Lib.IsBuilderF 85 5 w1.heap.size b (Lib.strCells lnR) w5 from .inr hAt); clear BR HB3 HBu2 hAt hb5 hk5; have BR := n0_; have HB3 := n1_; have HBu2 := n2_; clear n0_ n1_ n2_)))
 have r4 := (blk_cell BR.out 4).trans rfl
 go_wp2_with fail
 refine wp_loop_rounds 3 ?_
 rw [rounds_succ]
 obtain ⟨y0, y1, y2, y3, y4, y5, y6, y7⟩ := Y.out
 replace y0 := pw_cell_below HB3.out y0
 replace y1 := pw_cell_below HB3.out y1
 replace y2 := pw_cell_below HB3.out y2
 replace y3 := pw_cell_below HB3.out y3
 replace y4 := pw_cell_below HB3.out y4
 replace y5 := pw_cell_below HB3.out y5
 replace y6 := pw_cell_below HB3.out y6
 replace y7 := pw_cell_below HB3.out y7
 go_wp2_with fail
 (with_reducible refine (M1.out _ ?side1).mono ?_)
 case side1 => exact below_alloc HB3.out _
 rintro e_ w6 ⟨rfl, hb⟩
 have HBu3 := aS (builder_below (builder_below HBu2.out (below_alloc (Below.refl _ _) _)) hb)
 have HB4 := aS (bs_ (below_alloc HB3.out _) hb)
 clear hb y0 y1 y2 y3 y4 y5 y6 y7 HBu2 HB3 BR r4
 go_wp2_with fail
 (with_reducible refine (B.writeString w1.heap.size b _ _ _ HBu3.out ?side2 ?side3).mono ?_)
 case side2 => exact (by decide : (37 : Nat) ≤ 140737488355328)
 case side3 => exact HB4.out.size
 rintro e_ w7 ⟨rfl, hAt, hb5, hk5⟩
 have HB5 := aS (HB4.out.trans hb5)
 have HBu5 := aS (show Lib.IsBuilderF 85 5 w1.heap.size b (Lib.strCells lnR ++ Lib.strCells lnM) w7 from .inr hAt)
 clear hAt hb5 hk5 HB4 HBu3
 go_wp2_with (go_at_call 50; (with_reducible refine (len_at w1.heap.size b 37 _ _ HBu5.out ?side1).mono ?_); (case side1 => rfl); rintro e_ w8 ⟨rfl, rfl⟩)
 rw [rounds_succ]
 obtain ⟨v0, v1, v2, v3, v4, v5, v6, v7⟩ := V.out
 replace v0 := pw_cell_below HB5.out v0
 replace v1 := pw_cell_below HB5.out v1
 replace v2 := pw_cell_below HB5.out v2
 replace v3 := pw_cell_below HB5.out v3
 replace v4 := pw_cell_below HB5.out v4
 replace v5 := pw_cell_below HB5.out v5
 replace v6 := pw_cell_below HB5.out v6
 replace v7 := pw_cell_below HB5.out v7
 go_wp2_with fail
 (with_reducible refine (N1.out _ ?side1).mono ?_)
 case side1 => exact below_alloc HB5.out _
 rintro e_ w9 ⟨rfl, hb⟩
 have HBu6 := aS (builder_below (builder_below HBu5.out (below_alloc (Below.refl _ _) _)) hb)
 have HB6 := aS (bs_ (below_alloc HB5.out _) hb)
 clear hb v0 v1 v2 v3 v4 v5 v6 v7 HBu5 HB5
 go_wp2_with fail
 (with_reducible refine (B.writeString w1.heap.size b _ _ _ HBu6.out ?side2 ?side3).mono ?_)
 case side2 => exact (by decide : (48 : Nat) ≤ 140737488355328)
 case side3 => exact HB6.out.size
 rintro e_ w10 ⟨rfl, hAt, hb5, hk5⟩
 have HB7 := aS (HB6.out.trans hb5)
 have HBu7 := aS (show Lib.IsBuilderF 85 5 w1.heap.size b (Lib.byteCells sqText.data.toList) w10 from .inr hAt)
 clear hAt hb5 hk5 HB6 HBu6
 go_wp2_with (go_at_call 50; (with_reducible refine (len_at w1.heap.size b 48 _ _ HBu7.out ?side1).mono ?_); (case side1 => rfl); rintro e_ w11 ⟨rfl, rfl⟩)
 rw [rounds_succ]
 go_wp2
 rw [rounds_succ]
 go_wp2_with (first | (go_at_call 50; (with_reducible refine (len_at w1.heap.size b 48 _ _ HBu7.out ?side1).mono ?_); (case side1 => rfl); rintro e_ w12 ⟨rfl, rfl⟩) | (go_at_call 51; (with_reducible refine (Tryz.Builder_String_any_k w1.heap.size b sqText.data.toList _ HBu7.out ?side1).mono ?_); (case side1 => exact HB7.out.size); rintro e_ w13 ⟨rfl, _, hb8, _⟩; have HB8 := aS (HB7.out.trans hb8); clear hb8))
 refine bodyPost_ret (by simp [results, Tryz.results18, go_sem]) rfl ⟨rfl, bs_ HB1.out HB8.out⟩
theorem code_Text.calls (A0 : Option Addr) (c0 : Nat) (l0 : List S50) (r1 : ByteArray) (r2 : Int) (w : World) (hG : GW w) (hr0 : Kd.C k50 w A0 l0.length l0) (hc0 : l0.length ≤ c0) (h : code_Text.f l0 = some (r1, r2)) :
 Calls Tryz.prog 18 #[.slice A0 l0.length c0] w fun e w' => e = .returned (.tuple #[.string r1, .int .i64 r2]) ∧ Below w.heap.size w w' := by
 unfold code_Text.f at h
 by_cases hs : isSq l0 = true
 ·rw [if_pos hs] at h
  simp only [Option.some.injEq, Prod.mk.injEq] at h
  obtain ⟨rfl, rfl⟩ := h
  obtain rfl := isSq_of hs
  exact text_sq A0 c0 w hG hr0 hc0
 ·rw [if_neg hs] at h
  cases h
end Go.Proofs.YtbkknoipgmlcmaaGreatDoor.P

namespace Go.Proofs.YtbkknoipgmlcmaaGreatDoor.P
open Go.RowKit Go.Proofs.YtbkknoipgmlcmaaGreatDoorW.PrintWords Go.Proofs.YtbkknoipgmlcmaaGreatDoorW.PrintLast Go.Proofs.YtbkknoipgmlcmaaGreatDoorW.PrintMore
open Go.Proofs.FX
attribute [local go_sem] cell_twice le_add_cast
attribute [local go_sem] max2_int min2_int max_two min_two max_three min_three max_four min_four
def code_zig.f (a0 : Int) : Option (Int) := some (Go.bits .xor .u64 (IntKind.u64.wrap ((IntKind.u64.wrap (a0)) * 2)) (IntKind.u64.wrap (a0 / 9223372036854775808)))
theorem code_zig.calls (a0 : Int) (r : Int) (w : World) (h : code_zig.f a0 = some r) :
 Calls Tryz.prog 102 #[.int .i64 a0] w fun e w' => e = .returned (.int .u64 r) ∧ Drawn0 w w' := by
 have H := h
 unfold code_zig.f at H
 clear h
 obtain rfl := sI H
 go_enter Tryz.func102, Tryz.ntmps102
 go_wp2
 go_ret
 exact ⟨by first | rfl | (simp; done) | (simp [*]; done), by repeat (first | exact Drawn0.refl _ | apply Drawn0.step)⟩
def code_number.l0 : Nat → List Int → Int → Option (List Int)
 | 0, _, _ => none
 | k + 1, x0, x5 => if x5 ≥ 128 then (if x0.length < 140737488355328 then (code_number.l0 k (x0 ++ [Go.bits .or .u8 ((x5) % 256) 128]) (x5 / 128)) else (none)) else (if x0.length < 140737488355328 then (some (x0 ++ [(x5) % 256])) else (none))
def code_number.f (k : Nat) (l0 : List Int) (a1 : Int) : Option (List Int) := (code_zig.f a1).bind fun t354 => (code_number.l0 k l0 t354)
theorem code_number.calls (k : Nat) (P0_ : Nat → Prop) (u9000_ : Value) (l0 : List Int) (a1 : Int) (r : List Int) (w0 w : World) (hB : Below w0.heap.size w0 w) (ho0 : Kd.R (Kd.int .u8) 5 w w0.heap.size P0_ u9000_ l0) (h : code_number.f k l0 a1 = some r) :
 Calls Tryz.prog 39 #[u9000_, .int .i64 a1] w fun e w' => ∃ v0_ : Value, e = .returned (v0_) ∧ Kd.R (Kd.int .u8) 5 w' w0.heap.size (fun k_ => (P0_ k_ ∨ w.heap.size ≤ k_)) v0_ r ∧ Below w0.heap.size w0 w' ∧ Kept w w' (fun k_ => P0_ k_) := by
 have HO0 := aS (show Kd.R (Kd.int .u8) 5 w w0.heap.size (fun k_ => (P0_ k_ ∨ w.heap.size ≤ k_)) u9000_ l0 from Kd.R_mono ho0 (fun k_ hk => (.inl hk)))
 have HK := aS (Kept.refl w (fun k_ => P0_ k_))
 have HW0 := aS hB.size
 have HB := aS hB
 clear hB
 have H := h
 unfold code_number.f at H
 clear h
 replace H := bS H
 obtain ⟨t354, A30, H⟩ := H
 (try dsimp only at H)
 have A3 := aS A30
 clear A30
 have H' := aS H
 clear H
 go_enter Tryz.func39, Tryz.ntmps39
 go_wp2_with (first | ((with_reducible refine gate_callee (f := 102) rfl ?_); refine gl 7 Tryz.func102 #[.int .i64 a1] ?_; (with_reducible refine (code_zig.calls a1 t354 _ A3.out).mono ?_); rintro e w' ⟨rfl, ⟨nd, rfl⟩⟩; refine ⟨_, rfl, ?_⟩))
 go_loopg [0, 5] k (fun kq v0 v5 w' => ∃ (x0_1 : List Int) (x5_1 : Int), v5 = .int .u64 x5_1 ∧ Aside0 (code_number.l0 kq x0_1 x5_1 = some r) ∧ Aside0 (kq ≤ k) ∧ Aside0 (Kd.R (Kd.int .u8) 5 w' w0.heap.size (fun k_ => (P0_ k_ ∨ w.heap.size ≤ k_)) v0 x0_1) ∧ Aside0 (Kept w w' (fun k_ => P0_ k_)) ∧ Aside0 (Below w0.heap.size w0 w'))
 case atStart => exact ⟨(l0), (t354), rs, H', ⟨Nat.le_refl _⟩, ⟨by exact rA HO0.out⟩, ⟨by repeat (first | (with_reducible first | exact HK.out | apply Kept.alloc | apply Kept.drewN | apply Kept.drew) | exact HK.out)⟩, ⟨bl HB⟩⟩
 case round =>
  clear H'
  (try clear c1); (try clear p2); (try clear c3)
  obtain ⟨x0_1, x5_1, rfl, HA, HK1, HO_0, HK, HB⟩ := hrel
  cases gk with
  | zero => exact absurd HA.out (by simp [code_number.l0])
  | succ k1 =>
   have H := HA.out
   clear HA
   simp only [code_number.l0] at H
   by_cases c4 : x5_1 ≥ 128; rotate_left
   ·rw [if_neg c4] at H
    have c4b0 := dF c4
    clear c4
    by_cases c7 : x0_1.length < 140737488355328
    ·rw [if_pos c7] at H
     have LMc7 := aS c7
     clear c7
     obtain ⟨y358, hy358⟩ : ∃ y_ : List Int, y_ = (x0_1 ++ [(x5_1) % 256]) := ⟨_, rfl⟩
     first | replace H := bsB H hy358 | rw [← hy358] at H
     have Ny358 := aS hy358
     clear hy358
     obtain rfl := sI H
     go_wp2_with (first | ((with_reducible refine gate_builtin (b := .append) (xs := #[.tmp 18, .tmp 21]) rfl ?_); at_builtin; refine Kd.R_append (Kd.int .u8) (w0 := w0) w0.heap.size rfl (.tmp 18) (.tmp 21) 30 5 (.int .u8 0) 1 rfl Tryz.underlying30 info5 rfl (by decide) (by omega) u0 x0_1 ((x5_1) % 256) [.int .u8 ((x5_1) % 256)] (fun k_ => (P0_ k_ ∨ w.heap.size ≤ k_)) (fun _ => False) rfl rfl ?aP (fun _ hk => hk.elim) ?aF ?aO ?aB ?aS ?aL ?_; (case aP => exact rfl); (case aB => exact (bl HB)); (case aF => exact (fun k_ hk => (.inr (Nat.le_trans (by first | exact HK.out.1 | exact (show Kept w _ (fun k_ => P0_ k_) from by repeat (first | (with_reducible first | exact HK.out | apply Kept.alloc | apply Kept.drewN | apply Kept.drew) | exact HK.out)).1) hk)))); (case aO => exact (by exact rA HO_0.out)); (case aS => exact (below_size (bl HB))); (case aL => have := LMc7.out; omega); intro v359 w8 ho hb hg hat; rw [← Ny358.out] at ho; replace HB := aS (hb); replace HK := aS (Kept.of_grown (S := (fun k_ => P0_ k_)) hg (by repeat (first | (with_reducible first | exact HK.out | apply Kept.alloc | apply Kept.drewN | apply Kept.drew) | exact HK.out)) (fun k_ e_ => (HO_0.out.1 k_ e_))); have HO360 := aS (ho); clear HO_0; clear ho hb hg hat))
     go_ret
     exact ⟨_, re, by exact rA HO360.out, bl HB, by repeat (first | (with_reducible first | exact HK.out | apply Kept.alloc | apply Kept.drewN | apply Kept.drew) | exact HK.out)⟩
    ·rw [if_neg c7] at H
     cases H
   rw [if_pos c4] at H
   have c4b0 := dT c4
   clear c4
   by_cases c5 : x0_1.length < 140737488355328
   ·rw [if_pos c5] at H
    have LMc5 := aS c5
    clear c5
    obtain ⟨y355, hy355⟩ : ∃ y_ : List Int, y_ = (x0_1 ++ [Go.bits .or .u8 ((x5_1) % 256) 128]) := ⟨_, rfl⟩
    first | replace H := bsB H hy355 | rw [← hy355] at H
    have Ny355 := aS hy355
    clear hy355
    have H' := aS H
    clear H
    go_wp2_with (first | ((with_reducible refine gate_builtin (b := .append) (xs := #[.tmp 12, .tmp 16]) rfl ?_); at_builtin; refine Kd.R_append (Kd.int .u8) (w0 := w0) w0.heap.size rfl (.tmp 12) (.tmp 16) 30 5 (.int .u8 0) 1 rfl Tryz.underlying30 info5 rfl (by decide) (by omega) u0 x0_1 (Go.bits .or .u8 ((x5_1) % 256) 128) [.int .u8 (Go.bits .or .u8 ((x5_1) % 256) 128)] (fun k_ => (P0_ k_ ∨ w.heap.size ≤ k_)) (fun _ => False) rfl rfl ?aP (fun _ hk => hk.elim) ?aF ?aO ?aB ?aS ?aL ?_; (case aP => exact rfl); (case aB => exact (bl HB)); (case aF => exact (fun k_ hk => (.inr (Nat.le_trans (by first | exact HK.out.1 | exact (show Kept w _ (fun k_ => P0_ k_) from by repeat (first | (with_reducible first | exact HK.out | apply Kept.alloc | apply Kept.drewN | apply Kept.drew) | exact HK.out)).1) hk)))); (case aO => exact (by exact rA HO_0.out)); (case aS => exact (below_size (bl HB))); (case aL => have := LMc5.out; omega); intro v356 w6 ho hb hg hat; rw [← Ny355.out] at ho; replace HB := aS (hb); replace HK := aS (Kept.of_grown (S := (fun k_ => P0_ k_)) hg (by repeat (first | (with_reducible first | exact HK.out | apply Kept.alloc | apply Kept.drewN | apply Kept.drew) | exact HK.out)) (fun k_ e_ => (HO_0.out.1 k_ e_))); have HO357 := aS (ho); clear HO_0; clear ho hb hg hat))
    go_roundg k1
    case measure => have := HK1.out; omega
    case rel => exact ⟨(y355), (x5_1 / 128), rs, H', ⟨by have := HK1.out; omega⟩, ⟨by exact rA HO357.out⟩, ⟨by repeat (first | (with_reducible first | exact HK.out | apply Kept.alloc | apply Kept.drewN | apply Kept.drew) | exact HK.out)⟩, ⟨bl HB⟩⟩
   ·rw [if_neg c5] at H
    cases H
def code_sum.l0 : Nat → Int → List Int → Int → Int → Option (Int)
 | 0, _, _, _, _ => none
 | k + 1, x3, x6, x7, x8 => if x8 < x7 then (if 0 ≤ x8 then (if x8 < (x6.length : Int) then (code_sum.l0 k (wrap64 (x3 + (wrap64 (rd x6 x8)))) x6 x7 (wrap64 (x8 + 1))) else (none)) else (none)) else (some (Int.tmod x3 65521))
def code_sum.f (k : Nat) (l0 : List Int) : Option (Int) := code_sum.l0 k 0 l0 (l0.length : Int) 0
theorem code_sum.calls (k : Nat) (A0 : Option Addr) (c0 : Nat) (l0 : List Int) (r : Int) (w : World) (hr0 : Kd.C (Kd.int .u8) w A0 l0.length l0) (hc0 : l0.length ≤ c0) (h : code_sum.f k l0 = some r) :
 Calls Tryz.prog 45 #[.slice A0 l0.length c0] w fun e w' => e = .returned (.int .i64 r) ∧ Drawn0 w w' := by
 have HR0 := aS hr0
 have HC0 := aS hc0
 clear hr0 hc0
 have H := h
 unfold code_sum.f at H
 clear h
 have H' := aS H
 clear H
 go_enter Tryz.func45, Tryz.ntmps45
 go_wp2
 go_loopg [3, 8] k (fun kq v3 v8 w' => ∃ (x3_1 : Int) (x8_1 : Int), v3 = .int .i64 x3_1 ∧ v8 = .int .i64 x8_1 ∧ Aside0 (code_sum.l0 kq x3_1 l0 (l0.length : Int) x8_1 = some r) ∧ Aside0 (kq ≤ k) ∧ Drawn0 w w')
 case atStart => exact ⟨(0), (0), rs, rs, H', ⟨Nat.le_refl _⟩, by repeat (first | exact Drawn0.refl _ | apply Drawn0.step)⟩
 case round =>
  clear H'
  obtain ⟨x3_1, x8_1, rfl, rfl, HA, HK1, ⟨m1, rfl⟩⟩ := hrel
  cases gk with
  | zero => exact absurd HA.out (by simp [code_sum.l0])
  | succ k1 =>
   have H := HA.out
   clear HA
   simp only [code_sum.l0] at H
   by_cases c2 : x8_1 < (l0.length : Int); rotate_left
   ·rw [if_neg c2] at H
    have c2b0 := dF c2
    clear c2
    obtain rfl := sI H
    go_wp2
    go_ret
    exact ⟨by first | rfl | (simp; done) | (simp [*]; done), by repeat (first | exact Drawn0.refl _ | apply Drawn0.step)⟩
   rw [if_pos c2] at H
   have c2b0 := dT c2
   clear c2
   by_cases c3 : 0 ≤ x8_1; rotate_left
   ·rw [if_neg c3] at H
    cases H
   rw [if_pos c3] at H
   have c3b0 := dT c3
   clear c3
   by_cases c4 : x8_1 < (l0.length : Int)
   ·rw [if_pos c4] at H
    have c4b0 := dT c4
    clear c4
    have H' := aS H
    clear H
    have p380 : 0 ≤ (x8_1 : Int) := oa
    have q380 : x8_1 < (l0.length : Int) := oa
    obtain ⟨ad380, e380, hx380_0⟩ := Kd.at_int HR0.out x8_1 p380 q380
    cases e380
    replace p380 := eq_true p380
    replace q380 := eq_true q380
    go_wp2
    go_roundg k1
    case measure => have := HK1.out; omega
    case rel => exact ⟨(wrap64 (x3_1 + (wrap64 (rd l0 x8_1)))), (wrap64 (x8_1 + 1)), rs, rs, H', ⟨by have := HK1.out; omega⟩, by repeat (first | exact Drawn0.refl _ | apply Drawn0.step)⟩
   ·rw [if_neg c4] at H
    cases H
end Go.Proofs.YtbkknoipgmlcmaaGreatDoor.P

