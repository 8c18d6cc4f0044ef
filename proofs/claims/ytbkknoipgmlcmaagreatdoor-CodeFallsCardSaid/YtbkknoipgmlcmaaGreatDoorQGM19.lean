import Derived.Test.YtbkknoipgmlcmaaGreatDoorQGM18
set_option linter.all false
set_option maxHeartbeats 8000000
set_option maxRecDepth 100000
namespace Go.Proofs.QP
open Go.RowKit Go.Proofs.PW Go.Proofs.PL Go.Proofs.PM Go.Proofs.FX
theorem z5h {T e B b : Nat} {bs : List Value} {w w1 : World} (h : Lib.IsBuilderF T e B b bs w) (hk : ∀ (k : Nat) (c : Array Value) (q : Nat) (fz : Nat × Nat), w.heap[k]? = some (Obj.cells c q fz) → (q = T ∨ q = e) → w1.heap[k]? = some (Obj.cells c q fz)) (hs : w.heap.size ≤ w1.heap.size) : Lib.IsBuilderF T e B b bs w1 := by
 have step : ∀ p, Lib.BuilderAtF T e B b p bs w → Lib.BuilderAtF T e B b p bs w1 := by
  rintro p ⟨hB, v, hb, hown, hne⟩
  refine ⟨hB, v, hk _ _ _ _ hb (.inl rfl), ⟨hown.1, ?_⟩, hne⟩
  rcases hown.2 with h0 | ⟨g, cap, cur, fz, hv, hg, hh, hr⟩
  ·exact .inl h0
  ·exact .inr ⟨g, cap, cur, fz, hv, hg, hk _ _ _ _ hh (.inr rfl), hr⟩
 exact h.elim (fun x => .inl (step _ x)) (fun x => .inr (step _ x))
theorem z0g {T e B b : Nat} {bs : List Value} {w w1 : World} (h : Lib.IsBuilderF T e B b bs w) (hb : Below w.heap.size w w1) : Lib.IsBuilderF T e B b bs w1 :=
 z5h h (fun k c q fz hk _ => (hb.block k (Array.getElem?_eq_some_iff.1 hk).1).trans hk) hb.size
theorem zaw {e : TypeId} {b k q : Nat} {w w1 : World} {c : Array Value} {fz : Nat × Nat} (h : Lib.OthersKept e (some b) w w1) (hk : w.heap[k]? = some (.cells c q fz)) (hb : k ≠ b) (hq : q ≠ e) : w1.heap[k]? = some (.cells c q fz) :=
 h k _ hk (fun h => hb (by injection h)) (fun c' fz' h => hq (by injection h))
def lnM : ByteArray := ⟨#[32, 32, 109, 117, 108, 32, 49, 32, 48, 32, 48, 10]⟩
def lnT : ByteArray := ⟨#[32, 32, 114, 101, 116, 117, 114, 110, 32, 49, 10]⟩
def lnR : ByteArray := ⟨#[114, 111, 117, 116, 105, 110, 101, 32, 102, 40, 114, 101, 97, 108, 41, 32, 40, 114, 101, 97, 108, 41, 32, 50, 10]⟩
theorem z7O (B b n : Nat) (bs : List Value) (w : World) (h : Lib.IsBuilderF 85 5 B b bs w) (hn : bs.length = n) :
 Calls Tryz.prog 50 #[.pointer (some ⟨b, 0, none⟩)] w fun e w' => e = .returned (.int .i64 (n : Int)) ∧ w' = w := by
 subst hn
 exact Tryz.Builder_Len_f B b bs w h
theorem zca (A0 : Option Addr) (c0 : Nat) (w : World) (hG : GW w) (hr0 : Kd.C k50 w A0 1 [sqR]) (hc0 : 1 ≤ c0) :
 Calls Tryz.prog 18 #[.slice A0 1 c0] w fun e w' => e = .returned (.tuple #[.string z6v, .int .i64 0]) ∧ Below w.heap.size w w' := by
 have hL : z07.f 9 [tyR] = some ⟨#[40, 114, 101, 97, 108, 41]⟩ := by kernel_rfl
 have hM : xq.f 9 8 1 0 0 0 false [] [] = some lnM := by kernel_rfl
 have hT : xq.f 9 26 1 0 0 0 false [] [] = some lnT := by kernel_rfl
 have hI : strconv_Itoa.f 2 = some ⟨#[50]⟩ := by kernel_rfl
 have hu50 := Tryz.underlying50
 have hu85 := Tryz.underlying85
 have hu63 := Tryz.underlying63
 go_enter Tryz.func18, Tryz.ntmps18
 go_wp2_with fail
 refine (z5D A0 c0 w hG hr0 hc0).mono ?_
 rintro e_ w1 ⟨rfl, hb1⟩
 have hG1 := GW.below hG hb1
 have hr1 := Kd.zK hr0 hb1
 obtain ⟨ad, A1, c1, A2, c2, A4, c4, rfl, x0, x1, x2, x3, x4, l1, d1, l2, d2, l4, d4⟩ := xW hr1 0 (by decide) (by decide)
 obtain ⟨ab, ao, al⟩ := ad
 replace x0 : w1.cell? ⟨ab, ao, al⟩ = some (.string ⟨#[102]⟩) := x0
 replace x1 : w1.cell? ⟨ab, ao + 1, none⟩ = some (.slice A1 1 c1) := x1
 replace x2 : w1.cell? ⟨ab, ao + 2, none⟩ = some (.slice A2 1 c2) := x2
 replace x3 : w1.cell? ⟨ab, ao + 3, none⟩ = some (.int .i64 2) := x3
 replace x4 : w1.cell? ⟨ab, ao + 4, none⟩ = some (.slice A4 2 c4) := x4
 clear hG hr0 hr1
 obtain ⟨ai, D6, e6, D7, e7, rfl, y0, y1, y2, y3, y4, y5, y6, y7, k6, K6, k7, K7⟩ := z0j d4 0 (by decide) (by decide)
 obtain ⟨ai', E6, g6, E7, g7, eA, v0, v1, v2, v3, v4, v5, v6, v7, q6, Q6, q7, Q7⟩ := z0j d4 1 (by decide) (by decide)
 obtain rfl : ai = ai' := by injection eA
 obtain ⟨bb, bo, bl⟩ := ai
 have Y : Aside0 (w1.cell? ⟨bb, bo, bl⟩ = some (.int .i64 8) ∧ w1.cell? ⟨bb, bo + 1, none⟩ = some (.int .i64 1) ∧ w1.cell? ⟨bb, bo + 2, none⟩ = some (.int .i64 0) ∧ w1.cell? ⟨bb, bo + 3, none⟩ = some (.int .i64 0) ∧ w1.cell? ⟨bb, bo + 4, none⟩ = some (.int .i64 0) ∧ w1.cell? ⟨bb, bo + 5, none⟩ = some (.bool false) ∧ w1.cell? ⟨bb, bo + 6, none⟩ = some (.slice D6 0 e6) ∧ w1.cell? ⟨bb, bo + 7, none⟩ = some (.slice D7 0 e7)) := ⟨⟨y0, y1, y2, y3, y4, y5, y6, y7⟩⟩
 have V : Aside0 (w1.cell? ⟨bb, bo + 8, none⟩ = some (.int .i64 26) ∧ w1.cell? ⟨bb, bo + 8 + 1, none⟩ = some (.int .i64 1) ∧ w1.cell? ⟨bb, bo + 8 + 2, none⟩ = some (.int .i64 0) ∧ w1.cell? ⟨bb, bo + 8 + 3, none⟩ = some (.int .i64 0) ∧ w1.cell? ⟨bb, bo + 8 + 4, none⟩ = some (.int .i64 0) ∧ w1.cell? ⟨bb, bo + 8 + 5, none⟩ = some (.bool false) ∧ w1.cell? ⟨bb, bo + 8 + 6, none⟩ = some (.slice E6 0 g6) ∧ w1.cell? ⟨bb, bo + 8 + 7, none⟩ = some (.slice E7 0 g7)) := ⟨⟨v0, v1, v2, v3, v4, v5, v6, v7⟩⟩
 have M1 : Aside0 (∀ W, Below w1.heap.size w1 W → Calls Tryz.prog 49 #[.agg #[.int .i64 8, .int .i64 1, .int .i64 0, .int .i64 0, .int .i64 0, .bool false, .slice D6 0 e6, .slice D7 0 e7]] W fun e w' => e = .returned (.string lnM) ∧ Below W.heap.size W w') := ⟨fun W hb => xq.calls 9 8 1 0 0 0 false D6 e6 [] D7 e7 [] _ W (GW.below hG1 hb) (Kd.zK K6 hb) k6 (Kd.zK K7 hb) k7 hM⟩
 have N1 : Aside0 (∀ W, Below w1.heap.size w1 W → Calls Tryz.prog 49 #[.agg #[.int .i64 26, .int .i64 1, .int .i64 0, .int .i64 0, .int .i64 0, .bool false, .slice E6 0 g6, .slice E7 0 g7]] W fun e w' => e = .returned (.string lnT) ∧ Below W.heap.size W w') := ⟨fun W hb => xq.calls 9 26 1 0 0 0 false E6 g6 [] E7 g7 [] _ W (GW.below hG1 hb) (Kd.zK Q6 hb) q6 (Kd.zK Q7 hb) q7 hT⟩
 have HB1 := aS hb1
 have L1 : Aside0 (∀ W, Below w1.heap.size w1 W → Calls Tryz.prog 47 #[.slice A1 1 c1] W fun e w' => e = .returned (.string ⟨#[40, 114, 101, 97, 108, 41]⟩) ∧ Below W.heap.size W w') := ⟨fun W hb => z07.calls 9 A1 c1 [tyR] _ W (GW.below hG1 hb) (Kd.zK d1 hb) l1 hL⟩
 have L2 : Aside0 (∀ W, Below w1.heap.size w1 W → Calls Tryz.prog 47 #[.slice A2 1 c2] W fun e w' => e = .returned (.string ⟨#[40, 114, 101, 97, 108, 41]⟩) ∧ Below W.heap.size W w') := ⟨fun W hb => z07.calls 9 A2 c2 [tyR] _ W (GW.below hG1 hb) (Kd.zK d2 hb) l2 hL⟩
 have I1 : Aside0 (∀ W, Calls Tryz.prog 48 #[.int .i64 2] W fun e w' => e = .returned (.string ⟨#[50]⟩) ∧ zj W w') := ⟨fun W => strconv_Itoa.calls 2 _ W hI⟩
 clear hb1
 go_wp2_with (first | ((with_reducible refine zq (N := 4) rfl ?_); refine bx (N := 4) (cs := #[.pointer none, .slice none 0 0]) (t := 85) ?_; intro b hbq w2 hbox hb; have HBu := aS (show Lib.IsBuilderF 85 5 w1.heap.size b [] w2 from .inl ⟨Nat.le_of_eq hbq.symm, .slice none 0 0, hbox, ⟨rfl, .inl ⟨rfl, rfl⟩⟩, (by simp [Value.ownBlock])⟩); have HB2 := aS hb; replace x0 := ze hb x0; replace x1 := ze hb x1; replace x2 := ze hb x2; replace x3 := ze hb x3; replace x4 := ze hb x4; clear hb hbq hbox))
 refine wp_loop_rounds 2 ?_
 rw [rounds_succ]
 go_wp2_with fail
 have hcR := xt w2 (.cells #[.string ⟨#[102]⟩, .slice A1 1 c1, .slice A2 1 c2, .int .i64 2, .slice (some ⟨bb, bo, bl⟩) 2 c4] 50)
 have hbR := zl (Below.refl w2.heap.size w2) (.cells #[.string ⟨#[102]⟩, .slice A1 1 c1, .slice A2 1 c2, .int .i64 2, .slice (some ⟨bb, bo, bl⟩) 2 c4] 50)
 have hrq : w2.heap.size = w2.heap.size := rfl
 generalize hge : w2.alloc (.cells #[.string ⟨#[102]⟩, .slice A1 1 c1, .slice A2 1 c2, .int .i64 2, .slice (some ⟨bb, bo, bl⟩) 2 c4] 50) = w3 at hcR hbR ⊢
 generalize hgr : w2.heap.size = r at hcR hrq ⊢
 have HBu2 := aS (z0g HBu.out hbR)
 have HB3 := aS (bs_ HB2.out hbR)
 have BR := aS hcR
 have hne : r ≠ b := by
  have h1 : b < w2.heap.size := by
   rcases HBu.out with ⟨_, v, h, _⟩ | ⟨_, v, h, _⟩ <;> exact (Array.getElem?_eq_some_iff.1 h).1
  omega
 have HNe := aS hne
 clear hL hI hM hT y0 y1 y2 y3 y4 y5 y6 y7 v0 v1 v2 v3 v4 v5 v6 v7 k6 K6 k7 K7 q6 Q6 q7 Q7 eA d1 d2 d4 l1 l2 l4 hG1 hcR hbR hgr hrq hge hne HBu x0 x1 x2 x3 x4
 go_region_held3 (fun w' => w'.cell? ⟨r, 0, none⟩ = some (.string ⟨#[102]⟩) ∧ w'.cell? ⟨r, 1, none⟩ = some (.slice A1 1 c1) ∧ w'.cell? ⟨r, 2, none⟩ = some (.slice A2 1 c2) ∧ w'.cell? ⟨r, 3, none⟩ = some (.int .i64 2)) ((first | assumption | exact ⟨(za BR.out 0).trans rfl, (za BR.out 1).trans rfl, (za BR.out 2).trans rfl, (za BR.out 3).trans rfl⟩)) ((first
  | (go_at_call 47; (with_reducible refine (L1.out _ ?side1).mono ?_); (case side1 => repeat (first | exact HB3.out | apply zD | apply zd)); rintro e w4 ⟨rfl, hb⟩; have n0_ := aS (zf (g := r) (o := .cells #[.string ⟨#[102]⟩, .slice A1 1 c1, .slice A2 1 c2, .int .i64 2, .slice (some ⟨bb, bo, bl⟩) 2 c4] 50) (by (with_reducible repeat (first | refine yW ?_ _ | refine yb ?_)); exact BR.out) hb); have n1_ := aS (bs_ (by repeat (first | exact HB3.out | apply zD | apply zd)) hb); have n2_ := aS (z0g (T := 85) (e := 5) (B := w1.heap.size) (b := b) (bs := []) (by exact HBu2.out) hb); clear BR HB3 HBu2 hb; have BR := n0_; have HB3 := n1_; have HBu2 := n2_; clear n0_ n1_ n2_)
  | (go_at_call 47; (with_reducible refine (L2.out _ ?side1).mono ?_); (case side1 => repeat (first | exact HB3.out | apply zD | apply zd)); rintro e w4 ⟨rfl, hb⟩; have n0_ := aS (zf (g := r) (o := .cells #[.string ⟨#[102]⟩, .slice A1 1 c1, .slice A2 1 c2, .int .i64 2, .slice (some ⟨bb, bo, bl⟩) 2 c4] 50) (by (with_reducible repeat (first | refine yW ?_ _ | refine yb ?_)); exact BR.out) hb); have n1_ := aS (bs_ (by repeat (first | exact HB3.out | apply zD | apply zd)) hb); have n2_ := aS (z0g (T := 85) (e := 5) (B := w1.heap.size) (b := b) (bs := []) (by exact HBu2.out) hb); clear BR HB3 HBu2 hb; have BR := n0_; have HB3 := n1_; have HBu2 := n2_; clear n0_ n1_ n2_)
  | (go_at_call 48; (with_reducible refine (I1.out _).mono ?_); rintro e w4 ⟨rfl, ⟨nd, rfl⟩⟩)
  | (go_at_call 46; (with_reducible refine (B.writeString w1.heap.size b [] _ _ ?side1 ?side2 ?side3).mono ?_); (case side1 => exact HBu2.out); (case side2 => exact (by decide : (25 : Nat) ≤ 140737488355328)); (case side3 => exact HB3.out.size); rintro e w5 ⟨rfl, hAt, hb5, hk5⟩; have n0_ := aS (zaw hk5 (by (with_reducible repeat (first | refine yW ?_ _ | refine yb ?_)); exact BR.out) HNe.out (by decide)); have n1_ := aS (Below.trans (show Below w1.heap.size w1 (w4.drewN nd) from zd HB3.out nd) hb5); have n2_ := aS (show Lib.IsBuilderF 85 5 w1.heap.size b (Lib.strCells lnR) w5 from .inr hAt); clear BR HB3 HBu2 hAt hb5 hk5; have BR := n0_; have HB3 := n1_; have HBu2 := n2_; clear n0_ n1_ n2_)))
 have r4 := (za BR.out 4).trans rfl
 go_wp2_with fail
 refine wp_loop_rounds 3 ?_
 rw [rounds_succ]
 obtain ⟨y0, y1, y2, y3, y4, y5, y6, y7⟩ := Y.out
 replace y0 := ze HB3.out y0
 replace y1 := ze HB3.out y1
 replace y2 := ze HB3.out y2
 replace y3 := ze HB3.out y3
 replace y4 := ze HB3.out y4
 replace y5 := ze HB3.out y5
 replace y6 := ze HB3.out y6
 replace y7 := ze HB3.out y7
 go_wp2_with fail
 (with_reducible refine (M1.out _ ?side1).mono ?_)
 case side1 => exact zl HB3.out _
 rintro e_ w6 ⟨rfl, hb⟩
 have HBu3 := aS (z0g (z0g HBu2.out (zl (Below.refl _ _) _)) hb)
 have HB4 := aS (bs_ (zl HB3.out _) hb)
 clear hb y0 y1 y2 y3 y4 y5 y6 y7 HBu2 HB3 BR r4
 go_wp2_with fail
 (with_reducible refine (B.writeString w1.heap.size b _ _ _ HBu3.out ?side2 ?side3).mono ?_)
 case side2 => exact (by decide : (37 : Nat) ≤ 140737488355328)
 case side3 => exact HB4.out.size
 rintro e_ w7 ⟨rfl, hAt, hb5, hk5⟩
 have HB5 := aS (HB4.out.trans hb5)
 have HBu5 := aS (show Lib.IsBuilderF 85 5 w1.heap.size b (Lib.strCells lnR ++ Lib.strCells lnM) w7 from .inr hAt)
 clear hAt hb5 hk5 HB4 HBu3
 go_wp2_with (go_at_call 50; (with_reducible refine (z7O w1.heap.size b 37 _ _ HBu5.out ?side1).mono ?_); (case side1 => rfl); rintro e_ w8 ⟨rfl, rfl⟩)
 rw [rounds_succ]
 obtain ⟨v0, v1, v2, v3, v4, v5, v6, v7⟩ := V.out
 replace v0 := ze HB5.out v0
 replace v1 := ze HB5.out v1
 replace v2 := ze HB5.out v2
 replace v3 := ze HB5.out v3
 replace v4 := ze HB5.out v4
 replace v5 := ze HB5.out v5
 replace v6 := ze HB5.out v6
 replace v7 := ze HB5.out v7
 go_wp2_with fail
 (with_reducible refine (N1.out _ ?side1).mono ?_)
 case side1 => exact zl HB5.out _
 rintro e_ w9 ⟨rfl, hb⟩
 have HBu6 := aS (z0g (z0g HBu5.out (zl (Below.refl _ _) _)) hb)
 have HB6 := aS (bs_ (zl HB5.out _) hb)
 clear hb v0 v1 v2 v3 v4 v5 v6 v7 HBu5 HB5
 go_wp2_with fail
 (with_reducible refine (B.writeString w1.heap.size b _ _ _ HBu6.out ?side2 ?side3).mono ?_)
 case side2 => exact (by decide : (48 : Nat) ≤ 140737488355328)
 case side3 => exact HB6.out.size
 rintro e_ w10 ⟨rfl, hAt, hb5, hk5⟩
 have HB7 := aS (HB6.out.trans hb5)
 have HBu7 := aS (show Lib.IsBuilderF 85 5 w1.heap.size b (Lib.byteCells z6v.data.toList) w10 from .inr hAt)
 clear hAt hb5 hk5 HB6 HBu6
 go_wp2_with (go_at_call 50; (with_reducible refine (z7O w1.heap.size b 48 _ _ HBu7.out ?side1).mono ?_); (case side1 => rfl); rintro e_ w11 ⟨rfl, rfl⟩)
 rw [rounds_succ]
 go_wp2
 rw [rounds_succ]
 go_wp2_with (first | (go_at_call 50; (with_reducible refine (z7O w1.heap.size b 48 _ _ HBu7.out ?side1).mono ?_); (case side1 => rfl); rintro e_ w12 ⟨rfl, rfl⟩) | (go_at_call 51; (with_reducible refine (Tryz.Builder_String_any_k w1.heap.size b z6v.data.toList _ HBu7.out ?side1).mono ?_); (case side1 => exact HB7.out.size); rintro e_ w13 ⟨rfl, _, hb8, _⟩; have HB8 := aS (HB7.out.trans hb8); clear hb8))
 refine bodyPost_ret (by simp [results, Tryz.results18, go_sem]) rfl ⟨rfl, bs_ HB1.out HB8.out⟩
theorem z1S.calls (A0 : Option Addr) (c0 : Nat) (l0 : List S50) (r1 : ByteArray) (r2 : Int) (w : World) (hG : GW w) (hr0 : Kd.C k50 w A0 l0.length l0) (hc0 : l0.length ≤ c0) (h : z1S.f l0 = some (r1, r2)) :
 Calls Tryz.prog 18 #[.slice A0 l0.length c0] w fun e w' => e = .returned (.tuple #[.string r1, .int .i64 r2]) ∧ Below w.heap.size w w' := by
 unfold z1S.f at h
 by_cases hs : zao l0 = true
 ·rw [if_pos hs] at h
  simp only [Option.some.injEq, Prod.mk.injEq] at h
  obtain ⟨rfl, rfl⟩ := h
  obtain rfl := z8A hs
  exact zca A0 c0 w hG hr0 hc0
 ·rw [if_neg hs] at h
  cases h
section
section
attribute [local go_sem] yd zV
attribute [local go_sem] xf xg xD xE yI yJ xl xm
def z2A.f (a0 : Int) : Option (Int) := some (Go.bits .xor .u64 (IntKind.u64.wrap ((IntKind.u64.wrap (a0)) * 2)) (IntKind.u64.wrap (a0 / 9223372036854775808)))
theorem z2A.calls (a0 : Int) (r : Int) (w : World) (h : z2A.f a0 = some r) :
 Calls Tryz.prog 102 #[.int .i64 a0] w fun e w' => e = .returned (.int .u64 r) ∧ zj w w' := by
 have H := h
 unfold z2A.f at H
 clear h
 obtain rfl := sI H
 go_enter Tryz.func102, Tryz.ntmps102
 go_wp2
 go_ret
 exact ⟨by first | rfl | (simp; done) | (simp [*]; done), by repeat (first | exact zj.refl _ | apply zj.step)⟩
def zY.l0 : Nat → List Int → Int → Option (List Int)
 | 0, _, _ => none
 | k + 1, x0, x5 => if x5 ≥ 128 then (if x0.length < 140737488355328 then (zY.l0 k (x0 ++ [Go.bits .or .u8 ((x5) % 256) 128]) (x5 / 128)) else (none)) else (if x0.length < 140737488355328 then (some (x0 ++ [(x5) % 256])) else (none))
def zY.f (k : Nat) (l0 : List Int) (a1 : Int) : Option (List Int) := (z2A.f a1).bind fun t354 => (zY.l0 k l0 t354)
theorem zY.calls (k : Nat) (P0_ : Nat → Prop) (u9000_ : Value) (l0 : List Int) (a1 : Int) (r : List Int) (w0 w : World) (hB : Below w0.heap.size w0 w) (ho0 : Kd.R (Kd.int .u8) 5 w w0.heap.size P0_ u9000_ l0) (h : zY.f k l0 a1 = some r) :
 Calls Tryz.prog 39 #[u9000_, .int .i64 a1] w fun e w' => ∃ v0_ : Value, e = .returned (v0_) ∧ Kd.R (Kd.int .u8) 5 w' w0.heap.size (fun k_ => (P0_ k_ ∨ w.heap.size ≤ k_)) v0_ r ∧ Below w0.heap.size w0 w' ∧ Kept w w' (fun k_ => P0_ k_) := by
 have HO0 := aS (show Kd.R (Kd.int .u8) 5 w w0.heap.size (fun k_ => (P0_ k_ ∨ w.heap.size ≤ k_)) u9000_ l0 from Kd.zw ho0 (fun k_ hk => (.inl hk)))
 have HK := aS (Kept.refl w (fun k_ => P0_ k_))
 have HW0 := aS hB.size
 have HB := aS hB
 clear hB
 have H := h
 unfold zY.f at H
 clear h
 replace H := bA H
 obtain ⟨t354, A3, H⟩ := H
 have H' := aS H
 clear H
 go_enter Tryz.func39, Tryz.ntmps39
 go_wp2_with (first | ((with_reducible refine zi (f := 102) rfl ?_); refine gl 7 Tryz.func102 #[.int .i64 a1] ?_; (with_reducible refine (z2A.calls a1 t354 _ A3.out).mono ?_); rintro e w' ⟨rfl, ⟨nd, rfl⟩⟩; refine ⟨_, rfl, ?_⟩))
 go_loopg [0, 5] k (fun kq v0 v5 w' => ∃ (x0_1 : List Int) (x5_1 : Int), v5 = .int .u64 x5_1 ∧ Aside0 (zY.l0 kq x0_1 x5_1 = some r) ∧ Aside0 (kq ≤ k) ∧ Aside0 (Kd.R (Kd.int .u8) 5 w' w0.heap.size (fun k_ => (P0_ k_ ∨ w.heap.size ≤ k_)) v0 x0_1) ∧ Aside0 (Kept w w' (fun k_ => P0_ k_)) ∧ Aside0 (Below w0.heap.size w0 w'))
 case atStart => exact ⟨(l0), (t354), rs, H', ⟨Nat.le_refl _⟩, ⟨by exact rA HO0.out⟩, ⟨by repeat (first | (with_reducible first | exact HK.out | apply Kept.alloc | apply Kept.drewN | apply Kept.drew) | exact HK.out)⟩, ⟨bl HB⟩⟩
 case round =>
  clear H'
  obtain ⟨x0_1, x5_1, rfl, HA, HK1, HO_0, HK, HB⟩ := hrel
  cases gk with
  | zero => exact absurd HA.out (by simp [zY.l0])
  | succ k1 =>
   have H := HA.out
   clear HA
   simp only [zY.l0] at H
   by_cases c4 : x5_1 ≥ 128
   ·rw [if_pos c4] at H
    have c4b0 := dT c4
    clear c4
    replace H := iN_ H
    obtain ⟨c5, H⟩ := H
    have LMc5 := aS c5
    clear c5
    obtain ⟨y355, Ny355⟩ := yE (x0_1 ++ [Go.bits .or .u8 ((x5_1) % 256) 128] : List Int)
    rw [← Ny355.out] at H
    have H' := aS H
    clear H
    go_wp2_with (first | ((with_reducible refine yV (b := .append) (xs := #[.tmp 12, .tmp 16]) rfl ?_); at_builtin; refine Kd.z0C (Kd.int .u8) (w0 := w0) w0.heap.size rfl (.tmp 12) (.tmp 16) 30 5 (.int .u8 0) 1 rfl Tryz.underlying30 z8z rfl (by decide) (by omega) u0 x0_1 (Go.bits .or .u8 ((x5_1) % 256) 128) [.int .u8 (Go.bits .or .u8 ((x5_1) % 256) 128)] (fun k_ => (P0_ k_ ∨ w.heap.size ≤ k_)) (fun _ => False) rfl rfl ?aP (fun _ hk => hk.elim) ?aF ?aO ?aB ?aS ?aL ?_; (case aP => exact rfl); (case aB => exact (bl HB)); (case aF => exact (fun k_ hk => (.inr (Nat.le_trans (by first | exact HK.out.1 | exact (show Kept w _ (fun k_ => P0_ k_) from by repeat (first | (with_reducible first | exact HK.out | apply Kept.alloc | apply Kept.drewN | apply Kept.drew) | exact HK.out)).1) hk)))); (case aO => exact (by exact rA HO_0.out)); (case aS => exact (zg (bl HB))); (case aL => have := LMc5.out; omega); intro v356 w6 ho hb hg hat; rw [← Ny355.out] at ho; replace HB := aS (hb); replace HK := aS (Kept.z2F (S := (fun k_ => P0_ k_)) hg (by repeat (first | (with_reducible first | exact HK.out | apply Kept.alloc | apply Kept.drewN | apply Kept.drew) | exact HK.out)) (fun k_ e_ => (HO_0.out.1 k_ e_))); have HO357 := aS (ho); clear HO_0; clear ho hb hg hat))
    go_roundg k1
    case measure => have := HK1.out; omega
    case rel => exact ⟨(y355), (x5_1 / 128), rs, H', ⟨by have := HK1.out; omega⟩, ⟨by exact rA HO357.out⟩, ⟨by repeat (first | (with_reducible first | exact HK.out | apply Kept.alloc | apply Kept.drewN | apply Kept.drew) | exact HK.out)⟩, ⟨bl HB⟩⟩
   ·rw [if_neg c4] at H
    have c4b0 := dF c4
    clear c4
    replace H := iN_ H
    obtain ⟨c7, H⟩ := H
    have LMc7 := aS c7
    clear c7
    replace H := yS H
    obtain ⟨y358, Ny358, H⟩ := H
    obtain rfl := sI H
    go_wp2_with (first | ((with_reducible refine yV (b := .append) (xs := #[.tmp 18, .tmp 21]) rfl ?_); at_builtin; refine Kd.z0C (Kd.int .u8) (w0 := w0) w0.heap.size rfl (.tmp 18) (.tmp 21) 30 5 (.int .u8 0) 1 rfl Tryz.underlying30 z8z rfl (by decide) (by omega) u0 x0_1 ((x5_1) % 256) [.int .u8 ((x5_1) % 256)] (fun k_ => (P0_ k_ ∨ w.heap.size ≤ k_)) (fun _ => False) rfl rfl ?aP (fun _ hk => hk.elim) ?aF ?aO ?aB ?aS ?aL ?_; (case aP => exact rfl); (case aB => exact (bl HB)); (case aF => exact (fun k_ hk => (.inr (Nat.le_trans (by first | exact HK.out.1 | exact (show Kept w _ (fun k_ => P0_ k_) from by repeat (first | (with_reducible first | exact HK.out | apply Kept.alloc | apply Kept.drewN | apply Kept.drew) | exact HK.out)).1) hk)))); (case aO => exact (by exact rA HO_0.out)); (case aS => exact (zg (bl HB))); (case aL => have := LMc7.out; omega); intro v359 w8 ho hb hg hat; rw [← Ny358.out] at ho; replace HB := aS (hb); replace HK := aS (Kept.z2F (S := (fun k_ => P0_ k_)) hg (by repeat (first | (with_reducible first | exact HK.out | apply Kept.alloc | apply Kept.drewN | apply Kept.drew) | exact HK.out)) (fun k_ e_ => (HO_0.out.1 k_ e_))); have HO360 := aS (ho); clear HO_0; clear ho hb hg hat))
    go_ret
    exact ⟨_, re, by exact rA HO360.out, bl HB, by repeat (first | (with_reducible first | exact HK.out | apply Kept.alloc | apply Kept.drewN | apply Kept.drew) | exact HK.out)⟩
def z0D.l0 : Nat → Int → List Int → Int → Int → Option (Int)
 | 0, _, _, _, _ => none
 | k + 1, x3, x6, x7, x8 => if x8 < x7 then (if 0 ≤ x8 then (if x8 < (x6.length : Int) then (z0D.l0 k (wrap64 (x3 + (wrap64 (rd x6 x8)))) x6 x7 (wrap64 (x8 + 1))) else (none)) else (none)) else (some (Int.tmod x3 65521))
def z0D.f (k : Nat) (l0 : List Int) : Option (Int) := z0D.l0 k 0 l0 (l0.length : Int) 0
theorem z0D.calls (k : Nat) (A0 : Option Addr) (c0 : Nat) (l0 : List Int) (r : Int) (w : World) (hr0 : Kd.C (Kd.int .u8) w A0 l0.length l0) (hc0 : l0.length ≤ c0) (h : z0D.f k l0 = some r) :
 Calls Tryz.prog 45 #[.slice A0 l0.length c0] w fun e w' => e = .returned (.int .i64 r) ∧ zj w w' := by
 have HR0 := aS hr0
 have HC0 := aS hc0
 clear hr0 hc0
 have H := h
 unfold z0D.f at H
 clear h
 have H' := aS H
 clear H
 go_enter Tryz.func45, Tryz.ntmps45
 go_wp2
 go_loopg [3, 8] k (fun kq v3 v8 w' => ∃ (x3_1 : Int) (x8_1 : Int), v3 = .int .i64 x3_1 ∧ v8 = .int .i64 x8_1 ∧ Aside0 (z0D.l0 kq x3_1 l0 (l0.length : Int) x8_1 = some r) ∧ Aside0 (kq ≤ k) ∧ zj w w')
 case atStart => exact ⟨(0), (0), rs, rs, H', ⟨Nat.le_refl _⟩, by repeat (first | exact zj.refl _ | apply zj.step)⟩
 case round =>
  clear H'
  obtain ⟨x3_1, x8_1, rfl, rfl, HA, HK1, ⟨m1, rfl⟩⟩ := hrel
  cases gk with
  | zero => exact absurd HA.out (by simp [z0D.l0])
  | succ k1 =>
   have H := HA.out
   clear HA
   simp only [z0D.l0] at H
   by_cases c2 : x8_1 < (l0.length : Int); rotate_left
   ·rw [if_neg c2] at H
    have c2b0 := dF c2
    clear c2
    obtain rfl := sI H
    go_wp2
    go_ret
    exact ⟨by first | rfl | (simp; done) | (simp [*]; done), by repeat (first | exact zj.refl _ | apply zj.step)⟩
   rw [if_pos c2] at H
   have c2b0 := dT c2
   clear c2
   replace H := iD_ H
   obtain ⟨c3b0, H⟩ := H
   replace H := iD_ H
   obtain ⟨c4b0, H⟩ := H
   have H' := aS H
   clear H
   obtain ⟨ad380, e380, hx380_0⟩ := Kd.zT HR0.out x8_1 oa oa
   cases e380
   have p380 : (0 ≤ (x8_1 : Int)) = True := tO
   have q380 : (x8_1 < (l0.length : Int)) = True := tO
   go_wp2
   go_roundg k1
   case measure => have := HK1.out; omega
   case rel => exact ⟨(wrap64 (x3_1 + (wrap64 (rd l0 x8_1)))), (wrap64 (x8_1 + 1)), rs, rs, H', ⟨by have := HK1.out; omega⟩, by repeat (first | exact zj.refl _ | apply zj.step)⟩
end
end
section
section
attribute [local go_sem] Instr.index
abbrev z5e (w0 W w' : World) : Prop := Below w0.heap.size w0 w' ∧ ∀ (g : Nat) (cs : Array Value) (t : TypeId), t ≠ 5 → W.heap[g]? = some (.cells cs t (0, 0)) → w'.heap[g]? = some (.cells cs t (0, 0))
theorem z5e.z5Y {w0 W w1 w2 : World} (h : z5e w0 W w1) (k : z5e w0 w1 w2) : z5e w0 W w2 := ⟨k.1, fun g cs t ht hg => k.2 g cs t ht (h.2 g cs t ht hg)⟩
theorem z5e.zcH {w0 W : World} (h : Below w0.heap.size w0 W) (o : Obj) : z5e w0 W (W.alloc o) := ⟨zl h o, fun _ _ _ _ hg => zZ hg o⟩
theorem xT (K : Nat) (xs : List Int) (n : Int) (ys : List Int) (hf : zY.f K xs n = some ys) (w0 W : World) (v : Value) (hB : Below w0.heap.size w0 W) (ho : Kd.R (Kd.int .u8) 5 W w0.heap.size (fun _ => True) v xs) :
 Calls Tryz.prog 39 #[v, .int .i64 n] W fun e w' => ∃ v', e = .returned v' ∧ Kd.R (Kd.int .u8) 5 w' w0.heap.size (fun _ => True) v' ys ∧ z5e w0 W w' := by
 refine (zY.calls K (fun k => some k = v.ownBlock) v xs n ys w0 W hB ?_ hf).mono ?_
 ·exact Kd.z3L (fun h => h) ho (fun k hk _ => hk.symm)
 ·rintro e w' ⟨v', rfl, hR, hb, hk⟩
  exact ⟨v', rfl, Kd.zw hR (fun _ _ => trivial), hb, fun g cs t ht hg => z6B hg hk (Kd.z3f ho hg ht.symm)⟩
theorem nf1 : zY.f 9 [2] 1 = some [2, 2] := by kernel_rfl
theorem nf3 : zY.f 9 [2, 2, 102] 1 = some [2, 2, 102, 2] := by kernel_rfl
theorem nf4 : zY.f 9 [2, 2, 102, 2] 1 = some [2, 2, 102, 2, 2] := by kernel_rfl
theorem nf5 : zY.f 9 [2, 2, 102, 2, 2] 1 = some [2, 2, 102, 2, 2, 2] := by kernel_rfl
theorem nf6 : zY.f 9 [2, 2, 102, 2, 2, 2] 0 = some [2, 2, 102, 2, 2, 2, 0] := by kernel_rfl
theorem nf7 : zY.f 9 [2, 2, 102, 2, 2, 2, 0] 1 = some [2, 2, 102, 2, 2, 2, 0, 2] := by kernel_rfl
theorem nf8 : zY.f 9 [2, 2, 102, 2, 2, 2, 0, 2] 0 = some [2, 2, 102, 2, 2, 2, 0, 2, 0] := by kernel_rfl
theorem nf9 : zY.f 9 [2, 2, 102, 2, 2, 2, 0, 2, 0] 2 = some [2, 2, 102, 2, 2, 2, 0, 2, 0, 4] := by kernel_rfl
theorem zea : zY.f 9 [2, 2, 102, 2, 2, 2, 0, 2, 0, 4] 2 = some [2, 2, 102, 2, 2, 2, 0, 2, 0, 4, 4] := by kernel_rfl
theorem zeb : zY.f 9 [2, 2, 102, 2, 2, 2, 0, 2, 0, 4, 4] 8 = some [2, 2, 102, 2, 2, 2, 0, 2, 0, 4, 4, 16] := by kernel_rfl
theorem zec : zY.f 9 [2, 2, 102, 2, 2, 2, 0, 2, 0, 4, 4, 16] 1 = some [2, 2, 102, 2, 2, 2, 0, 2, 0, 4, 4, 16, 2] := by kernel_rfl
theorem zed : zY.f 9 [2, 2, 102, 2, 2, 2, 0, 2, 0, 4, 4, 16, 2] 0 = some [2, 2, 102, 2, 2, 2, 0, 2, 0, 4, 4, 16, 2, 0] := by kernel_rfl
theorem zee : zY.f 9 [2, 2, 102, 2, 2, 2, 0, 2, 0, 4, 4, 16, 2, 0] 0 = some [2, 2, 102, 2, 2, 2, 0, 2, 0, 4, 4, 16, 2, 0, 0] := by kernel_rfl
theorem zef : zY.f 9 [2, 2, 102, 2, 2, 2, 0, 2, 0, 4, 4, 16, 2, 0, 0] 26 = some [2, 2, 102, 2, 2, 2, 0, 2, 0, 4, 4, 16, 2, 0, 0, 52] := by kernel_rfl
theorem zeg : zY.f 9 [2, 2, 102, 2, 2, 2, 0, 2, 0, 4, 4, 16, 2, 0, 0, 52] 1 = some [2, 2, 102, 2, 2, 2, 0, 2, 0, 4, 4, 16, 2, 0, 0, 52, 2] := by kernel_rfl
theorem zeh : zY.f 9 [2, 2, 102, 2, 2, 2, 0, 2, 0, 4, 4, 16, 2, 0, 0, 52, 2] 194 = some [2, 2, 102, 2, 2, 2, 0, 2, 0, 4, 4, 16, 2, 0, 0, 52, 2, 132, 3] := by kernel_rfl
theorem z57 (A : Option Addr) (c : Nat) (xs ys zs : List Int) (h1 : zY.f 9 xs 1 = some ys) (h2 : zY.f 9 ys 0 = some zs) (w0 w1 W : World) (v : Value) (hA : Kd.C xC w1 A 1 [tyR]) (h01 : Below w1.heap.size w1 w0) (hB : Below w0.heap.size w0 W) (ho : Kd.R (Kd.int .u8) 5 W w0.heap.size (fun _ => True) v xs) :
 Calls Tryz.prog 40 #[v, .slice A 1 c] W fun e w' => ∃ v', e = .returned v' ∧ Kd.R (Kd.int .u8) 5 w' w0.heap.size (fun _ => True) v' zs ∧ z5e w0 W w' := by
 have hu115 := Tryz.underlying115
 obtain ⟨A2, c2, rfl⟩ := Kd.zB ho
 obtain ⟨ad, D, e, rfl, x0, x1, _, _⟩ := z2b hA 0 (by decide) (by decide)
 obtain ⟨ab, ao, al⟩ := ad
 have HX : Aside0 (w1.cell? ⟨ab, ao, al⟩ = some (.int .i64 1) ∧ w1.cell? ⟨ab, ao + 1, none⟩ = some (.slice D 0 e)) := ⟨⟨x0, x1⟩⟩
 have HB := aS (bs_ h01 hB)
 have HB0 := aS hB
 have HV := aS ho
 clear hA h01 hB ho x0 x1
 obtain ⟨x0, x1⟩ := HX.out
 replace x0 := ze HB.out x0
 replace x1 := ze HB.out x1
 go_enter Tryz.func40, Tryz.ntmps40
 go_wp2_with fail
 refine wp_loop_rounds 2 ?_
 rw [rounds_succ]
 go_wp2_with fail
 have BT := aS (xt W (.cells #[.int .i64 1, .slice D 0 e] 115))
 (with_reducible refine (xT 9 xs 1 ys h1 w0 _ _ ?side1 ?side2).mono ?_)
 case side1 => exact zl HB0.out _
 case side2 => exact Kd.xB HV.out _
 rintro e_ w2 ⟨v2, rfl, hR, hb⟩
 obtain ⟨B2, b2, rfl⟩ := Kd.zB hR
 have HH := aS ((z5e.zcH HB0.out _).z5Y hb)
 replace HV := aS hR
 replace BT := aS (hb.2 _ _ _ (by decide) BT.out)
 have y1 := (za BT.out 1).trans rfl
 clear hR hb x0 x1
 go_wp2_with fail
 (with_reducible refine (xT 9 ys 0 zs h2 w0 _ _ HH.out.1 HV.out).mono ?_)
 rintro e_ w3 ⟨v3, rfl, hR, hb⟩
 obtain ⟨B3, b3, rfl⟩ := Kd.zB hR
 replace HH := aS (HH.out.z5Y hb)
 replace HV := aS hR
 replace BT := aS (hb.2 _ _ _ (by decide) BT.out)
 replace y1 := (za BT.out 1).trans rfl
 clear hR hb
 go_wp2_with fail
 refine wp_loop_rounds 1 ?_
 rw [rounds_succ]
 go_wp2_with fail
 rw [rounds_succ]
 go_wp2
 refine bodyPost_ret (by simp [results, Tryz.results40, go_sem]) rfl ⟨_, rfl, HV.out, HH.out⟩
theorem za0 (A0 : Option Addr) (c0 : Nat) (w : World) (hG : GW w) (hr0 : Kd.C k50 w A0 1 [sqR]) (hc0 : 1 ≤ c0) : Calls Tryz.prog 17 #[.slice A0 1 c0] w fun e w' => ∃ v, e = .returned (.tuple #[v, .int .i64 0]) ∧ Kd.R (Kd.int .u8) 5 w' w.heap.size (fun _ => True) v yj ∧ Below w.heap.size w w' := by
 have hu50 := Tryz.underlying50
 have hu63 := Tryz.underlying63
 have hu72 := Tryz.underlying72
 have hu73 := Tryz.underlying73
 have hu75 := Tryz.underlying75
 have hu78 := Tryz.underlying78
 have hu77 := Tryz.underlying77
 have hu70 := Tryz.underlying70
 have HG := aS hG
 obtain ⟨ad, A1, c1, A2, c2, A4, c4, rfl, x0, x1, x2, x3, x4, l1, d1, l2, d2, _, d4⟩ := xW hr0 0 (by decide) (by decide)
 obtain ⟨ab, ao, al⟩ := ad
 obtain ⟨⟨bb, bo, bz⟩, D6, e6, D7, e7, rfl, y0, y1, y2, y3, y4, y5, y6, y7, _, _, _, _⟩ := z0j d4 0 (by decide) (by decide)
 obtain ⟨ai, E6, g6, E7, g7, eA, v0, v1, v2, v3, v4, v5, v6, v7, _, _, _, _⟩ := z0j d4 1 (by decide) (by decide)
 obtain rfl : (⟨bb, bo, bz⟩ : Addr) = ai := by injection eA
 have YM : Aside0 (∃ D6 e6 D7 e7, w.cell? ⟨bb, bo, bz⟩ = some (.int .i64 8) ∧ w.cell? ⟨bb, bo + 1, none⟩ = some (.int .i64 1) ∧ w.cell? ⟨bb, bo + 2, none⟩ = some (.int .i64 0) ∧ w.cell? ⟨bb, bo + 3, none⟩ = some (.int .i64 0) ∧ w.cell? ⟨bb, bo + 4, none⟩ = some (.int .i64 0) ∧ w.cell? ⟨bb, bo + 5, none⟩ = some (.bool false) ∧ w.cell? ⟨bb, bo + 6, none⟩ = some (.slice D6 0 e6) ∧ w.cell? ⟨bb, bo + 7, none⟩ = some (.slice D7 0 e7)) := ⟨⟨_, _, _, _, y0, y1, y2, y3, y4, y5, y6, y7⟩⟩
 have YT : Aside0 (∃ D6 e6 D7 e7, w.cell? ⟨bb, bo + 8, none⟩ = some (.int .i64 26) ∧ w.cell? ⟨bb, bo + 8 + 1, none⟩ = some (.int .i64 1) ∧ w.cell? ⟨bb, bo + 8 + 2, none⟩ = some (.int .i64 0) ∧ w.cell? ⟨bb, bo + 8 + 3, none⟩ = some (.int .i64 0) ∧ w.cell? ⟨bb, bo + 8 + 4, none⟩ = some (.int .i64 0) ∧ w.cell? ⟨bb, bo + 8 + 5, none⟩ = some (.bool false) ∧ w.cell? ⟨bb, bo + 8 + 6, none⟩ = some (.slice D6 0 e6) ∧ w.cell? ⟨bb, bo + 8 + 7, none⟩ = some (.slice D7 0 e7)) := ⟨⟨_, _, _, _, v0, v1, v2, v3, v4, v5, v6, v7⟩⟩
 clear y0 y1 y2 y3 y4 y5 y6 y7 v0 v1 v2 v3 v4 v5 v6 v7 d4 eA
 have HX : Aside0 (w.cell? ⟨ab, ao, al⟩ = some (.string ⟨#[102]⟩) ∧ w.cell? ⟨ab, ao + 1, none⟩ = some (.slice A1 1 c1) ∧ w.cell? ⟨ab, ao + 2, none⟩ = some (.slice A2 1 c2) ∧ w.cell? ⟨ab, ao + 3, none⟩ = some (.int .i64 2) ∧ w.cell? ⟨ab, ao + 4, none⟩ = some (.slice (some ⟨bb, bo, bz⟩) 2 c4)) := ⟨⟨x0, x1, x2, x3, x4⟩⟩
 have HI : Aside0 (Calls Tryz.prog 13 #[.slice (some ⟨ab, ao, al⟩) 1 c0] w fun e w' => e = .returned (.bool true) ∧ Below w.heap.size w w') := ⟨z5D _ c0 w hG hr0 hc0⟩
 clear hG hr0 hc0 x0 x1 x2 x3 x4
 go_enter Tryz.func17, Tryz.ntmps17
 go_wp2_with fail
 (with_reducible refine HI.out.mono ?_)
 rintro e w1 ⟨rfl, hb⟩
 have HB := aS hb
 clear hb
 go_wp2_with fail
 (with_reducible refine (xT 9 [] 1 [2] (by kernel_rfl) w w1 _ HB.out (Kd.z0l _ _ _ _ _)).mono ?_)
 rintro e w2 ⟨v2, rfl, hR, hb⟩
 obtain ⟨B2, b2, rfl⟩ := Kd.zB hR
 have HV := aS hR
 obtain ⟨x0, x1, x2, x3, x4⟩ := HX.out
 replace x0 := ze hb.1 x0
 replace x1 := ze hb.1 x1
 replace x2 := ze hb.1 x2
 replace x3 := ze hb.1 x3
 replace x4 := ze hb.1 x4
 replace HB := aS hb.1
 clear hb hR
 go_wp2_with fail
 refine wp_loop_rounds 2 ?_
 rw [rounds_succ]
 go_wp2_with fail
 have BR := aS (xt w2 (.cells #[.string ⟨#[102]⟩, .slice A1 1 c1, .slice A2 1 c2, .int .i64 2, .slice (some ⟨bb, bo, bz⟩) 2 c4] 50))
 replace HB := aS (zl HB.out (.cells #[.string ⟨#[102]⟩, .slice A1 1 c1, .slice A2 1 c2, .int .i64 2, .slice (some ⟨bb, bo, bz⟩) 2 c4] 50))
 replace HV := aS (Kd.xB HV.out (.cells #[.string ⟨#[102]⟩, .slice A1 1 c1, .slice A2 1 c2, .int .i64 2, .slice (some ⟨bb, bo, bz⟩) 2 c4] 50))
 clear x0 x1 x2 x3 x4
 generalize hge : w2.alloc (.cells #[.string ⟨#[102]⟩, .slice A1 1 c1, .slice A2 1 c2, .int .i64 2, .slice (some ⟨bb, bo, bz⟩) 2 c4] 50) = w3 at BR HB HV ⊢
 generalize hgr : w2.heap.size = r at BR ⊢
 clear hge hgr
 have D1 := aS (show Kd.C xC w A1 1 [tyR] from d1)
 have D2 := aS (show Kd.C xC w A2 1 [tyR] from d2)
 clear d1 d2 l1 l2
 go_region_held3 (fun w' => w'.cell? ⟨r, 0, none⟩ = some (.string ⟨#[102]⟩)) ((first | assumption | exact (za BR.out 0).trans rfl)) ((first
  | (go_at_call 39; (with_reducible refine (xT 9 [2] 1 [2, 2] nf1 w _ _ ?side1 ?side2).mono ?_); (case side1 => exact bl HB); (case side2 => exact HV.out); rintro e_ wn ⟨vn, rfl, hR, hb⟩; obtain ⟨Bn, bn, rfl⟩ := Kd.zB hR; replace HV := aS hR; replace HB := aS hb.1; replace BR := aS (hb.2 _ _ 50 (by decide) (by (with_reducible repeat (first | refine yW ?_ _ | refine yb ?_)); exact BR.out)); clear hb hR)
  | ((refine z2n (w0 := w) w.heap.size (by rfl) (.tmp 30) _ 30 9 5 rfl Tryz.underlying30 Tryz.underlying9 z8z _ [2, 2] ⟨#[102]⟩ rfl rfl ?aO ?aB ?aS (by decide) ?_); (case aO => exact Kd.z4V HV.out); (case aB => exact bl HB); (case aS => exact HB.out.size); intro vn wn ho0 hb hg; have hR := Kd.z2r (h1 := fun _ => rfl) (ok := fun _ => True) ho0 (fun _ _ => trivial); replace BR := aS (yX (by (with_reducible repeat (first | refine yW ?_ _ | refine yb ?_)); exact BR.out) hg (Kd.z3f HV.out BR.out (by decide))); replace HB := aS hb; replace HV := aS (show Kd.R (Kd.int .u8) 5 wn w.heap.size (fun _ => True) vn [2, 2, 102] from hR); obtain ⟨Bn, bn, rfl⟩ := Kd.zB HV.out; clear ho0 hb hg hR)
  | fail))
 go_wp2_with fail
 go_region_held3 (fun w' => w'.cell? ⟨r, 1, none⟩ = some (.slice A1 1 c1) ∧ w'.cell? ⟨r, 2, none⟩ = some (.slice A2 1 c2)) ((first | assumption | exact ⟨(za BR.out 1).trans rfl, (za BR.out 2).trans rfl⟩)) ((first
  | (go_at_call 39; (with_reducible refine (xT 9 [2, 2, 102] 1 [2, 2, 102, 2] nf3 w _ _ ?side1 ?side2).mono ?_); (case side1 => exact bl HB); (case side2 => exact HV.out); rintro e_ wn ⟨vn, rfl, hR, hb⟩; obtain ⟨Bn, bn, rfl⟩ := Kd.zB hR; replace HV := aS hR; replace HB := aS hb.1; replace BR := aS (hb.2 _ _ 50 (by decide) (by (with_reducible repeat (first | refine yW ?_ _ | refine yb ?_)); exact BR.out)); clear hb hR)
  | (go_at_call 39; (with_reducible refine (xT 9 [2, 2, 102, 2] 1 [2, 2, 102, 2, 2] nf4 w _ _ ?side1 ?side2).mono ?_); (case side1 => exact bl HB); (case side2 => exact HV.out); rintro e_ wn ⟨vn, rfl, hR, hb⟩; obtain ⟨Bn, bn, rfl⟩ := Kd.zB hR; replace HV := aS hR; replace HB := aS hb.1; replace BR := aS (hb.2 _ _ 50 (by decide) (by (with_reducible repeat (first | refine yW ?_ _ | refine yb ?_)); exact BR.out)); clear hb hR)
  | fail))
 go_wp2_with fail
 go_region_held3 (fun w' => w'.cell? ⟨r, 1, none⟩ = some (.slice A1 1 c1) ∧ w'.cell? ⟨r, 2, none⟩ = some (.slice A2 1 c2)) ((first | assumption | exact ⟨(za BR.out 1).trans rfl, (za BR.out 2).trans rfl⟩)) ((first
  | (go_at_call 40; (with_reducible refine (z57 A1 c1 [2, 2, 102, 2, 2] [2, 2, 102, 2, 2, 2] [2, 2, 102, 2, 2, 2, 0] nf5 nf6 w w _ _ D1.out (Below.refl _ _) ?side1 ?side2).mono ?_); (case side1 => exact bl HB); (case side2 => exact HV.out); rintro e_ wn ⟨vn, rfl, hR, hb⟩; obtain ⟨Bn, bn, rfl⟩ := Kd.zB hR; replace HV := aS hR; replace HB := aS hb.1; replace BR := aS (hb.2 _ _ 50 (by decide) (by (with_reducible repeat (first | refine yW ?_ _ | refine yb ?_)); exact BR.out)); clear hb hR)
  | (go_at_call 40; (with_reducible refine (z57 A2 c2 [2, 2, 102, 2, 2, 2, 0] [2, 2, 102, 2, 2, 2, 0, 2] [2, 2, 102, 2, 2, 2, 0, 2, 0] nf7 nf8 w w _ _ D2.out (Below.refl _ _) ?side1 ?side2).mono ?_); (case side1 => exact bl HB); (case side2 => exact HV.out); rintro e_ wn ⟨vn, rfl, hR, hb⟩; obtain ⟨Bn, bn, rfl⟩ := Kd.zB hR; replace HV := aS hR; replace HB := aS hb.1; replace BR := aS (hb.2 _ _ 50 (by decide) (by (with_reducible repeat (first | refine yW ?_ _ | refine yb ?_)); exact BR.out)); clear hb hR)
  | fail))
 go_wp2_with fail
 go_region_held3 (fun w' => w'.cell? ⟨r, 3, none⟩ = some (.int .i64 2) ∧ w'.cell? ⟨r, 4, none⟩ = some (.slice (some ⟨bb, bo, bz⟩) 2 c4)) ((first | assumption | exact ⟨(za BR.out 3).trans rfl, (za BR.out 4).trans rfl⟩)) ((first
  | (go_at_call 39; (with_reducible refine (xT 9 [2, 2, 102, 2, 2, 2, 0, 2, 0] 2 [2, 2, 102, 2, 2, 2, 0, 2, 0, 4] nf9 w _ _ ?side1 ?side2).mono ?_); (case side1 => exact bl HB); (case side2 => exact HV.out); rintro e_ wn ⟨vn, rfl, hR, hb⟩; obtain ⟨Bn, bn, rfl⟩ := Kd.zB hR; replace HV := aS hR; replace HB := aS hb.1; replace BR := aS (hb.2 _ _ 50 (by decide) (by (with_reducible repeat (first | refine yW ?_ _ | refine yb ?_)); exact BR.out)); clear hb hR)
  | (go_at_call 39; (with_reducible refine (xT 9 [2, 2, 102, 2, 2, 2, 0, 2, 0, 4] 2 [2, 2, 102, 2, 2, 2, 0, 2, 0, 4, 4] zea w _ _ ?side1 ?side2).mono ?_); (case side1 => exact bl HB); (case side2 => exact HV.out); rintro e_ wn ⟨vn, rfl, hR, hb⟩; obtain ⟨Bn, bn, rfl⟩ := Kd.zB hR; replace HV := aS hR; replace HB := aS hb.1; replace BR := aS (hb.2 _ _ 50 (by decide) (by (with_reducible repeat (first | refine yW ?_ _ | refine yb ?_)); exact BR.out)); clear hb hR)
  | fail))
 have r4 := (za BR.out 4).trans rfl
 go_wp2_with fail
 refine wp_loop_rounds 3 ?_
 clear r4 BR
 rw [rounds_succ]
 obtain ⟨D6, e6, D7, e7, y0, y1, y2, y3, y4, y5, y6, y7⟩ := YM.out
 replace y0 := ze HB.out y0
 replace y1 := ze HB.out y1
 replace y2 := ze HB.out y2
 replace y3 := ze HB.out y3
 replace y4 := ze HB.out y4
 replace y5 := ze HB.out y5
 replace y6 := ze HB.out y6
 replace y7 := ze HB.out y7
 go_wp2_with fail
 have hof : xP.f 8 = some (⟨#[109, 117, 108]⟩, 1, 1, 1, false, 0, 0, true) := by kernel_rfl
 (with_reducible refine (xP.calls 8 _ _ _ _ _ _ _ _ _ ?side1 hof).mono ?_)
 case side1 => exact HG.out.below (zl HB.out _)
 rintro e_ wo ⟨rfl, hb⟩
 have BI := aS (zf (xt wn (.cells #[.int .i64 8, .int .i64 1, .int .i64 0, .int .i64 0, .int .i64 0, .bool false, .slice D6 0 e6, .slice D7 0 e7] 63)) hb)
 replace HV := aS (Kd.zU (Kd.xB HV.out _) hb)
 replace HB := aS (bs_ (zl HB.out _) hb)
 have i0 : ∀ o, (wo.alloc o).cell? ⟨wn.heap.size, 0, none⟩ = _ := fun o => (za (zZ BI.out o) 0).trans rfl
 clear hb hof y0 y1 y2 y3 y4 y5 y6 y7
 go_wp2_with fail
 have BS := aS (xt wo (.cells #[.string ⟨#[109, 117, 108]⟩, .int .i64 1, .int .i64 1, .int .i64 1, .bool false, .int .i64 0, .int .i64 0] 72))
 (with_reducible refine (xT 9 [2, 2, 102, 2, 2, 2, 0, 2, 0, 4, 4] 8 [2, 2, 102, 2, 2, 2, 0, 2, 0, 4, 4, 16] zeb w _ _ ?side1 ?side2).mono ?_)
 case side1 => exact zl HB.out _
 case side2 => exact Kd.xB HV.out _
 rintro e_ wp ⟨vn, rfl, hR, hb⟩
 obtain ⟨Bn, bn, rfl⟩ := Kd.zB hR
 replace BI := aS (hb.2 _ _ _ (by decide) (zZ BI.out _))
 replace BS := aS (hb.2 _ _ _ (by decide) BS.out)
 replace HV := aS hR
 replace HB := aS hb.1
 clear hR hb i0
 have s0 := (za BS.out 0).trans rfl
 have s1 := (za BS.out 1).trans rfl
 have s2 := (za BS.out 2).trans rfl
 have s3 := (za BS.out 3).trans rfl
 have s4 := (za BS.out 4).trans rfl
 have s5 := (za BS.out 5).trans rfl
 have s6 := (za BS.out 6).trans rfl
 go_wp2_with fail
 (with_reducible refine (z0G _ _ _ _ _ _ _ _).mono ?_)
 rintro e_ wq ⟨rfl, hb⟩
 replace BI := aS (zf BI.out hb); replace BS := aS (zf BS.out hb); replace HV := aS (Kd.zU HV.out hb); replace HB := aS (bs_ HB.out hb)
 clear hb s0 s1 s2 s3 s5 s6
 replace s4 := (za BS.out 4).trans rfl
 have i1 := (za BI.out 1).trans rfl
 have i2 := (za BI.out 2).trans rfl
 have i3 := (za BI.out 3).trans rfl
 go_wp2_with fail
 refine wp_loop_rounds 4 ?_
 rw [rounds_succ]
 go_wp2_with (first
  | (go_at_call 43; (with_reducible refine (yi _ _).mono ?_); rintro e_ wr_ ⟨rfl, hb⟩; replace BI := aS (zf BI.out hb); replace BS := aS (zf BS.out hb); replace HV := aS (Kd.zU HV.out hb); replace HB := aS (bs_ HB.out hb); replace i1 := (za BI.out 1).trans rfl; replace i2 := (za BI.out 2).trans rfl; replace i3 := (za BI.out 3).trans rfl; replace s4 := (za BS.out 4).trans rfl; clear hb)
  | (go_at_call 39; (with_reducible refine (xT 9 [2, 2, 102, 2, 2, 2, 0, 2, 0, 4, 4, 16] 1 [2, 2, 102, 2, 2, 2, 0, 2, 0, 4, 4, 16, 2] zec w _ _ ?side1 ?side2).mono ?_); (case side1 => exact HB.out); (case side2 => exact HV.out); rintro e_ wn ⟨vn, rfl, hR, hb⟩; obtain ⟨Bn, bn, rfl⟩ := Kd.zB hR; replace BI := aS (hb.2 _ _ 63 (by decide) BI.out); replace BS := aS (hb.2 _ _ 72 (by decide) BS.out); replace HV := aS hR; replace HB := aS hb.1; replace i1 := (za BI.out 1).trans rfl; replace i2 := (za BI.out 2).trans rfl; replace i3 := (za BI.out 3).trans rfl; replace s4 := (za BS.out 4).trans rfl; clear hR hb))
 rw [rounds_succ]
 go_wp2_with (first
  | (go_at_call 43; (with_reducible refine (yi _ _).mono ?_); rintro e_ wr_ ⟨rfl, hb⟩; replace BI := aS (zf BI.out hb); replace BS := aS (zf BS.out hb); replace HV := aS (Kd.zU HV.out hb); replace HB := aS (bs_ HB.out hb); replace i1 := (za BI.out 1).trans rfl; replace i2 := (za BI.out 2).trans rfl; replace i3 := (za BI.out 3).trans rfl; replace s4 := (za BS.out 4).trans rfl; clear hb)
  | (go_at_call 39; (with_reducible refine (xT 9 [2, 2, 102, 2, 2, 2, 0, 2, 0, 4, 4, 16, 2] 0 [2, 2, 102, 2, 2, 2, 0, 2, 0, 4, 4, 16, 2, 0] zed w _ _ ?side1 ?side2).mono ?_); (case side1 => exact HB.out); (case side2 => exact HV.out); rintro e_ wn ⟨vn, rfl, hR, hb⟩; obtain ⟨Bn, bn, rfl⟩ := Kd.zB hR; replace BI := aS (hb.2 _ _ 63 (by decide) BI.out); replace BS := aS (hb.2 _ _ 72 (by decide) BS.out); replace HV := aS hR; replace HB := aS hb.1; replace i1 := (za BI.out 1).trans rfl; replace i2 := (za BI.out 2).trans rfl; replace i3 := (za BI.out 3).trans rfl; replace s4 := (za BS.out 4).trans rfl; clear hR hb))
 rw [rounds_succ]
 go_wp2_with (first
  | (go_at_call 43; (with_reducible refine (yi _ _).mono ?_); rintro e_ wr_ ⟨rfl, hb⟩; replace BI := aS (zf BI.out hb); replace BS := aS (zf BS.out hb); replace HV := aS (Kd.zU HV.out hb); replace HB := aS (bs_ HB.out hb); replace i1 := (za BI.out 1).trans rfl; replace i2 := (za BI.out 2).trans rfl; replace i3 := (za BI.out 3).trans rfl; replace s4 := (za BS.out 4).trans rfl; clear hb)
  | (go_at_call 39; (with_reducible refine (xT 9 [2, 2, 102, 2, 2, 2, 0, 2, 0, 4, 4, 16, 2, 0] 0 [2, 2, 102, 2, 2, 2, 0, 2, 0, 4, 4, 16, 2, 0, 0] zee w _ _ ?side1 ?side2).mono ?_); (case side1 => exact HB.out); (case side2 => exact HV.out); rintro e_ wn ⟨vn, rfl, hR, hb⟩; obtain ⟨Bn, bn, rfl⟩ := Kd.zB hR; replace BI := aS (hb.2 _ _ 63 (by decide) BI.out); replace BS := aS (hb.2 _ _ 72 (by decide) BS.out); replace HV := aS hR; replace HB := aS hb.1; replace i1 := (za BI.out 1).trans rfl; replace i2 := (za BI.out 2).trans rfl; replace i3 := (za BI.out 3).trans rfl; replace s4 := (za BS.out 4).trans rfl; clear hR hb))
 rw [rounds_succ]
 go_wp2_with fail
 clear i1 i2 i3 s4 BI BS
 rw [rounds_succ]
 obtain ⟨D6, e6, D7, e7, y0, y1, y2, y3, y4, y5, y6, y7⟩ := YT.out
 replace y0 := ze HB.out y0
 replace y1 := ze HB.out y1
 replace y2 := ze HB.out y2
 replace y3 := ze HB.out y3
 replace y4 := ze HB.out y4
 replace y5 := ze HB.out y5
 replace y6 := ze HB.out y6
 replace y7 := ze HB.out y7
 go_wp2_with fail
 have hof : xP.f 26 = some (⟨#[114, 101, 116, 117, 114, 110]⟩, 6, 0, 0, false, 0, 0, true) := by kernel_rfl
 (with_reducible refine (xP.calls 26 _ _ _ _ _ _ _ _ _ ?side1 hof).mono ?_)
 case side1 => exact HG.out.below (zl HB.out _)
 rintro e_ wo ⟨rfl, hb⟩
 have BI := aS (zf (xt wn (.cells #[.int .i64 26, .int .i64 1, .int .i64 0, .int .i64 0, .int .i64 0, .bool false, .slice D6 0 e6, .slice D7 0 e7] 63)) hb)
 replace HV := aS (Kd.zU (Kd.xB HV.out _) hb)
 replace HB := aS (bs_ (zl HB.out _) hb)
 have i0 : ∀ o, (wo.alloc o).cell? ⟨wn.heap.size, 0, none⟩ = _ := fun o => (za (zZ BI.out o) 0).trans rfl
 clear hb hof y0 y1 y2 y3 y4 y5 y6 y7
 go_wp2_with fail
 have BS := aS (xt wo (.cells #[.string ⟨#[114, 101, 116, 117, 114, 110]⟩, .int .i64 6, .int .i64 0, .int .i64 0, .bool false, .int .i64 0, .int .i64 0] 72))
 (with_reducible refine (xT 9 [2, 2, 102, 2, 2, 2, 0, 2, 0, 4, 4, 16, 2, 0, 0] 26 [2, 2, 102, 2, 2, 2, 0, 2, 0, 4, 4, 16, 2, 0, 0, 52] zef w _ _ ?side1 ?side2).mono ?_)
 case side1 => exact zl HB.out _
 case side2 => exact Kd.xB HV.out _
 rintro e_ wp ⟨vn, rfl, hR, hb⟩
 obtain ⟨Bn, bn, rfl⟩ := Kd.zB hR
 replace BI := aS (hb.2 _ _ _ (by decide) (zZ BI.out _))
 replace BS := aS (hb.2 _ _ _ (by decide) BS.out)
 replace HV := aS hR
 replace HB := aS hb.1
 clear hR hb i0
 have s0 := (za BS.out 0).trans rfl
 have s1 := (za BS.out 1).trans rfl
 have s2 := (za BS.out 2).trans rfl
 have s3 := (za BS.out 3).trans rfl
 have s4 := (za BS.out 4).trans rfl
 have s5 := (za BS.out 5).trans rfl
 have s6 := (za BS.out 6).trans rfl
 go_wp2_with fail
 (with_reducible refine (z0G _ _ _ _ _ _ _ _).mono ?_)
 rintro e_ wq ⟨rfl, hb⟩
 replace BI := aS (zf BI.out hb); replace BS := aS (zf BS.out hb); replace HV := aS (Kd.zU HV.out hb); replace HB := aS (bs_ HB.out hb)
 clear hb s0 s1 s2 s3 s5 s6
 replace s4 := (za BS.out 4).trans rfl
 have i1 := (za BI.out 1).trans rfl
 have i2 := (za BI.out 2).trans rfl
 have i3 := (za BI.out 3).trans rfl
 go_wp2_with fail
 refine wp_loop_rounds 4 ?_
 rw [rounds_succ]
 go_wp2_with (first
  | (go_at_call 43; (with_reducible refine (yi _ _).mono ?_); rintro e_ wr_ ⟨rfl, hb⟩; replace BI := aS (zf BI.out hb); replace BS := aS (zf BS.out hb); replace HV := aS (Kd.zU HV.out hb); replace HB := aS (bs_ HB.out hb); replace i1 := (za BI.out 1).trans rfl; replace i2 := (za BI.out 2).trans rfl; replace i3 := (za BI.out 3).trans rfl; replace s4 := (za BS.out 4).trans rfl; clear hb)
  | (go_at_call 39; (with_reducible refine (xT 9 [2, 2, 102, 2, 2, 2, 0, 2, 0, 4, 4, 16, 2, 0, 0, 52] 1 [2, 2, 102, 2, 2, 2, 0, 2, 0, 4, 4, 16, 2, 0, 0, 52, 2] zeg w _ _ ?side1 ?side2).mono ?_); (case side1 => exact HB.out); (case side2 => exact HV.out); rintro e_ wn ⟨vn, rfl, hR, hb⟩; obtain ⟨Bn, bn, rfl⟩ := Kd.zB hR; replace BI := aS (hb.2 _ _ 63 (by decide) BI.out); replace BS := aS (hb.2 _ _ 72 (by decide) BS.out); replace HV := aS hR; replace HB := aS hb.1; replace i1 := (za BI.out 1).trans rfl; replace i2 := (za BI.out 2).trans rfl; replace i3 := (za BI.out 3).trans rfl; replace s4 := (za BS.out 4).trans rfl; clear hR hb))
 rw [rounds_succ]
 go_wp2
 rw [rounds_succ]
 go_wp2
 rw [rounds_succ]
 go_wp2_with fail
 clear i1 i2 i3 s4 BI BS
 rw [rounds_succ]
 go_wp2_with fail
 rw [rounds_succ]
 go_wp2_with fail
 have HS : Aside0 (Calls Tryz.prog 45 #[.slice Bn 17 bn] wn fun e w' => e = .returned (.int .i64 194) ∧ zj wn w') := ⟨z0D.calls 20 Bn bn [2, 2, 102, 2, 2, 2, 0, 2, 0, 4, 4, 16, 2, 0, 0, 52, 2] 194 wn (Kd.zz HV.out).2.2 (Kd.zz HV.out).2.1 (by kernel_rfl)⟩
 (with_reducible refine HS.out.mono ?_)
 rintro e_ w0_ ⟨rfl, ⟨nd, rfl⟩⟩
 go_wp2_with (first
  | (go_at_call 39; (with_reducible refine (xT 9 [2, 2, 102, 2, 2, 2, 0, 2, 0, 4, 4, 16, 2, 0, 0, 52, 2] 194 [2, 2, 102, 2, 2, 2, 0, 2, 0, 4, 4, 16, 2, 0, 0, 52, 2, 132, 3] zeh w _ _ ?side1 ?side2).mono ?_); (case side1 => exact bl HB); (case side2 => exact HV.out); rintro e_ wz ⟨vz, rfl, hR, hb⟩; have HR := aS hR; have HZ := aS hb.1; obtain ⟨Bz, nz, rfl⟩ := Kd.zB hR; clear hR hb))
 refine bodyPost_ret (by simp [results, Tryz.results17, go_sem]) rfl ⟨_, rfl, HR.out, HZ.out⟩
def z1z.f (l : List S50) : Option (List Int × Int) := if zao l = true then some (yj, 0) else none
theorem z1z.calls (A0 : Option Addr) (c0 : Nat) (l0 : List S50) (r1 : List Int) (r2 : Int) (w : World) (hG : GW w) (hr0 : Kd.C k50 w A0 l0.length l0) (hc0 : l0.length ≤ c0) (h : z1z.f l0 = some (r1, r2)) :
 Calls Tryz.prog 17 #[.slice A0 l0.length c0] w fun e w' => ∃ v0_ : Value, e = .returned (.tuple #[v0_, .int .i64 r2]) ∧ Kd.R (Kd.int .u8) 5 w' w.heap.size (fun _ => True) v0_ r1 ∧ Below w.heap.size w w' := by
 unfold z1z.f at h
 by_cases hs : zao l0 = true
 ·rw [if_pos hs] at h
  simp only [Option.some.injEq, Prod.mk.injEq] at h
  obtain ⟨rfl, rfl⟩ := h
  obtain rfl := z8A hs
  exact za0 A0 c0 w hG hr0 hc0
 ·rw [if_neg hs] at h
  cases h
end
end
end Go.Proofs.QP

