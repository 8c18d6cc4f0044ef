import Derived.LoopN
import Derived.Handy
import Derived.Deep.RegionHeld3
import Derived.Test.YtbkknoipgmlcmaaGreatDoorQCM32
set_option linter.unusedVariables false
set_option linter.unusedSimpArgs false
set_option maxHeartbeats 8000000
set_option maxRecDepth 100000
namespace Go.Proofs.YtbkknoipgmlcmaaGreatDoor.P
open Go.RowKit Go.Proofs.YtbkknoipgmlcmaaGreatDoorW.PrintWords Go.Proofs.YtbkknoipgmlcmaaGreatDoorW.PrintLast Go.Proofs.YtbkknoipgmlcmaaGreatDoorW.PrintMore
open Go.Proofs.FX
attribute [local go_sem] Instr.index
abbrev Held (w0 W w' : World) : Prop := Below w0.heap.size w0 w' ∧ ∀ (g : Nat) (cs : Array Value) (t : TypeId), t ≠ 5 → W.heap[g]? = some (.cells cs t (0, 0)) → w'.heap[g]? = some (.cells cs t (0, 0))
theorem Held.then_ {w0 W w1 w2 : World} (h : Held w0 W w1) (k : Held w0 w1 w2) : Held w0 W w2 := ⟨k.1, fun g cs t ht hg => k.2 g cs t ht (h.2 g cs t ht hg)⟩
theorem Held.alloc_ {w0 W : World} (h : Below w0.heap.size w0 W) (o : Obj) : Held w0 W (W.alloc o) := ⟨below_alloc h o, fun _ _ _ _ hg => blk_alloc hg o⟩
theorem num_step (K : Nat) (xs : List Int) (n : Int) (ys : List Int) (hf : code_number.f K xs n = some ys) (w0 W : World) (v : Value) (hB : Below w0.heap.size w0 W) (ho : Kd.R (Kd.int .u8) 5 W w0.heap.size (fun _ => True) v xs) :
 Calls Tryz.prog 39 #[v, .int .i64 n] W fun e w' => ∃ v', e = .returned v' ∧ Kd.R (Kd.int .u8) 5 w' w0.heap.size (fun _ => True) v' ys ∧ Held w0 W w' := by
 refine (code_number.calls K (fun k => some k = v.ownBlock) v xs n ys w0 W hB ?_ hf).mono ?_
 ·exact Kd.R_flat (fun h => h) ho (fun k hk _ => hk.symm)
 ·rintro e w' ⟨v', rfl, hR, hb, hk⟩
  exact ⟨v', rfl, Kd.R_mono hR (fun _ _ => trivial), hb, fun g cs t ht hg => blk_kept hg hk (Kd.R_ne ho hg ht.symm)⟩
theorem nf1 : code_number.f 9 [2] 1 = some [2, 2] := by kernel_rfl
theorem nf3 : code_number.f 9 [2, 2, 102] 1 = some [2, 2, 102, 2] := by kernel_rfl
theorem nf4 : code_number.f 9 [2, 2, 102, 2] 1 = some [2, 2, 102, 2, 2] := by kernel_rfl
theorem nf5 : code_number.f 9 [2, 2, 102, 2, 2] 1 = some [2, 2, 102, 2, 2, 2] := by kernel_rfl
theorem nf6 : code_number.f 9 [2, 2, 102, 2, 2, 2] 0 = some [2, 2, 102, 2, 2, 2, 0] := by kernel_rfl
theorem nf7 : code_number.f 9 [2, 2, 102, 2, 2, 2, 0] 1 = some [2, 2, 102, 2, 2, 2, 0, 2] := by kernel_rfl
theorem nf8 : code_number.f 9 [2, 2, 102, 2, 2, 2, 0, 2] 0 = some [2, 2, 102, 2, 2, 2, 0, 2, 0] := by kernel_rfl
theorem nf9 : code_number.f 9 [2, 2, 102, 2, 2, 2, 0, 2, 0] 2 = some [2, 2, 102, 2, 2, 2, 0, 2, 0, 4] := by kernel_rfl
theorem nf10 : code_number.f 9 [2, 2, 102, 2, 2, 2, 0, 2, 0, 4] 2 = some [2, 2, 102, 2, 2, 2, 0, 2, 0, 4, 4] := by kernel_rfl
theorem nf11 : code_number.f 9 [2, 2, 102, 2, 2, 2, 0, 2, 0, 4, 4] 8 = some [2, 2, 102, 2, 2, 2, 0, 2, 0, 4, 4, 16] := by kernel_rfl
theorem nf12 : code_number.f 9 [2, 2, 102, 2, 2, 2, 0, 2, 0, 4, 4, 16] 1 = some [2, 2, 102, 2, 2, 2, 0, 2, 0, 4, 4, 16, 2] := by kernel_rfl
theorem nf13 : code_number.f 9 [2, 2, 102, 2, 2, 2, 0, 2, 0, 4, 4, 16, 2] 0 = some [2, 2, 102, 2, 2, 2, 0, 2, 0, 4, 4, 16, 2, 0] := by kernel_rfl
theorem nf14 : code_number.f 9 [2, 2, 102, 2, 2, 2, 0, 2, 0, 4, 4, 16, 2, 0] 0 = some [2, 2, 102, 2, 2, 2, 0, 2, 0, 4, 4, 16, 2, 0, 0] := by kernel_rfl
theorem nf15 : code_number.f 9 [2, 2, 102, 2, 2, 2, 0, 2, 0, 4, 4, 16, 2, 0, 0] 26 = some [2, 2, 102, 2, 2, 2, 0, 2, 0, 4, 4, 16, 2, 0, 0, 52] := by kernel_rfl
theorem nf16 : code_number.f 9 [2, 2, 102, 2, 2, 2, 0, 2, 0, 4, 4, 16, 2, 0, 0, 52] 1 = some [2, 2, 102, 2, 2, 2, 0, 2, 0, 4, 4, 16, 2, 0, 0, 52, 2] := by kernel_rfl
theorem nf17 : code_number.f 9 [2, 2, 102, 2, 2, 2, 0, 2, 0, 4, 4, 16, 2, 0, 0, 52, 2] 194 = some [2, 2, 102, 2, 2, 2, 0, 2, 0, 4, 4, 16, 2, 0, 0, 52, 2, 132, 3] := by kernel_rfl
theorem types_step (A : Option Addr) (c : Nat) (xs ys zs : List Int) (h1 : code_number.f 9 xs 1 = some ys) (h2 : code_number.f 9 ys 0 = some zs) (w0 w1 W : World) (v : Value) (hA : Kd.C k115 w1 A 1 [tyR]) (h01 : Below w1.heap.size w1 w0) (hB : Below w0.heap.size w0 W) (ho : Kd.R (Kd.int .u8) 5 W w0.heap.size (fun _ => True) v xs) :
 Calls Tryz.prog 40 #[v, .slice A 1 c] W fun e w' => ∃ v', e = .returned v' ∧ Kd.R (Kd.int .u8) 5 w' w0.heap.size (fun _ => True) v' zs ∧ Held w0 W w' := by
 have hu115 := Tryz.underlying115
 obtain ⟨A2, c2, rfl⟩ := Kd.R_slice ho
 obtain ⟨ad, D, e, rfl, x0, x1, _, _⟩ := at_T115 hA 0 (by decide) (by decide)
 obtain ⟨ab, ao, al⟩ := ad
 have HX : Aside0 (w1.cell? ⟨ab, ao, al⟩ = some (.int .i64 1) ∧ w1.cell? ⟨ab, ao + 1, none⟩ = some (.slice D 0 e)) := ⟨⟨x0, x1⟩⟩
 have HB := aS (bs_ h01 hB)
 have HB0 := aS hB
 have HV := aS ho
 clear hA h01 hB ho x0 x1
 obtain ⟨x0, x1⟩ := HX.out
 replace x0 := pw_cell_below HB.out x0
 replace x1 := pw_cell_below HB.out x1
 go_enter Tryz.func40, Tryz.ntmps40
 go_wp2_with fail
 refine wp_loop_rounds 2 ?_
 rw [rounds_succ]
 go_wp2_with fail
 have BT := aS (blk_new W (.cells #[.int .i64 1, .slice D 0 e] 115))
 (with_reducible refine (num_step 9 xs 1 ys h1 w0 _ _ ?side1 ?side2).mono ?_)
 case side1 => exact below_alloc HB0.out _
 case side2 => exact Kd.R_alloc HV.out _
 rintro e_ w2 ⟨v2, rfl, hR, hb⟩
 obtain ⟨B2, b2, rfl⟩ := Kd.R_slice hR
 have HH := aS ((Held.alloc_ HB0.out _).then_ hb)
 replace HV := aS hR
 replace BT := aS (hb.2 _ _ _ (by decide) BT.out)
 have y1 := (blk_cell BT.out 1).trans rfl
 clear hR hb x0 x1
 go_wp2_with fail
 (with_reducible refine (num_step 9 ys 0 zs h2 w0 _ _ HH.out.1 HV.out).mono ?_)
 rintro e_ w3 ⟨v3, rfl, hR, hb⟩
 obtain ⟨B3, b3, rfl⟩ := Kd.R_slice hR
 replace HH := aS (HH.out.then_ hb)
 replace HV := aS hR
 replace BT := aS (hb.2 _ _ _ (by decide) BT.out)
 replace y1 := (blk_cell BT.out 1).trans rfl
 clear hR hb
 go_wp2_with fail
 refine wp_loop_rounds 1 ?_
 rw [rounds_succ]
 go_wp2_with fail
 rw [rounds_succ]
 go_wp2
 refine bodyPost_ret (by simp [results, Tryz.results40, go_sem]) rfl ⟨_, rfl, HV.out, HH.out⟩
theorem bytes_sq (A0 : Option Addr) (c0 : Nat) (w : World) (hG : GW w) (hr0 : Kd.C k50 w A0 1 [sqR]) (hc0 : 1 ≤ c0) : Calls Tryz.prog 17 #[.slice A0 1 c0] w fun e w' => ∃ v, e = .returned (.tuple #[v, .int .i64 0]) ∧ Kd.R (Kd.int .u8) 5 w' w.heap.size (fun _ => True) v sqBytes ∧ Below w.heap.size w w' := by
 have hu50 := Tryz.underlying50
 have hu63 := Tryz.underlying63
 have hu72 := Tryz.underlying72
 have hu73 := Tryz.underlying73
 have hu75 := Tryz.underlying75
 have hu78 := Tryz.underlying78
 have hu77 := Tryz.underlying77
 have hu70 := Tryz.underlying70
 have HG := aS hG
 obtain ⟨ad, A1, c1, A2, c2, A4, c4, rfl, x0, x1, x2, x3, x4, l1, d1, l2, d2, _, d4⟩ := at_T50 hr0 0 (by decide) (by decide)
 obtain ⟨ab, ao, al⟩ := ad
 obtain ⟨⟨bb, bo, bz⟩, D6, e6, D7, e7, rfl, y0, y1, y2, y3, y4, y5, y6, y7, _, _, _, _⟩ := at_T63 d4 0 (by decide) (by decide)
 obtain ⟨ai, E6, g6, E7, g7, eA, v0, v1, v2, v3, v4, v5, v6, v7, _, _, _, _⟩ := at_T63 d4 1 (by decide) (by decide)
 obtain rfl : (⟨bb, bo, bz⟩ : Addr) = ai := by injection eA
 have YM : Aside0 (∃ D6 e6 D7 e7, w.cell? ⟨bb, bo, bz⟩ = some (.int .i64 8) ∧ w.cell? ⟨bb, bo + 1, none⟩ = some (.int .i64 1) ∧ w.cell? ⟨bb, bo + 2, none⟩ = some (.int .i64 0) ∧ w.cell? ⟨bb, bo + 3, none⟩ = some (.int .i64 0) ∧ w.cell? ⟨bb, bo + 4, none⟩ = some (.int .i64 0) ∧ w.cell? ⟨bb, bo + 5, none⟩ = some (.bool false) ∧ w.cell? ⟨bb, bo + 6, none⟩ = some (.slice D6 0 e6) ∧ w.cell? ⟨bb, bo + 7, none⟩ = some (.slice D7 0 e7)) := ⟨⟨_, _, _, _, y0, y1, y2, y3, y4, y5, y6, y7⟩⟩
 have YT : Aside0 (∃ D6 e6 D7 e7, w.cell? ⟨bb, bo + 8, none⟩ = some (.int .i64 26) ∧ w.cell? ⟨bb, bo + 8 + 1, none⟩ = some (.int .i64 1) ∧ w.cell? ⟨bb, bo + 8 + 2, none⟩ = some (.int .i64 0) ∧ w.cell? ⟨bb, bo + 8 + 3, none⟩ = some (.int .i64 0) ∧ w.cell? ⟨bb, bo + 8 + 4, none⟩ = some (.int .i64 0) ∧ w.cell? ⟨bb, bo + 8 + 5, none⟩ = some (.bool false) ∧ w.cell? ⟨bb, bo + 8 + 6, none⟩ = some (.slice D6 0 e6) ∧ w.cell? ⟨bb, bo + 8 + 7, none⟩ = some (.slice D7 0 e7)) := ⟨⟨_, _, _, _, v0, v1, v2, v3, v4, v5, v6, v7⟩⟩
 clear y0 y1 y2 y3 y4 y5 y6 y7 v0 v1 v2 v3 v4 v5 v6 v7 d4 eA
 have HX : Aside0 (w.cell? ⟨ab, ao, al⟩ = some (.string ⟨#[102]⟩) ∧ w.cell? ⟨ab, ao + 1, none⟩ = some (.slice A1 1 c1) ∧ w.cell? ⟨ab, ao + 2, none⟩ = some (.slice A2 1 c2) ∧ w.cell? ⟨ab, ao + 3, none⟩ = some (.int .i64 2) ∧ w.cell? ⟨ab, ao + 4, none⟩ = some (.slice (some ⟨bb, bo, bz⟩) 2 c4)) := ⟨⟨x0, x1, x2, x3, x4⟩⟩
 have HI : Aside0 (Calls Tryz.prog 13 #[.slice (some ⟨ab, ao, al⟩) 1 c0] w fun e w' => e = .returned (.bool true) ∧ Below w.heap.size w w') := ⟨isCode_sq _ c0 w hG hr0 hc0⟩
 clear hG hr0 hc0 x0 x1 x2 x3 x4
 go_enter Tryz.func17, Tryz.ntmps17
 go_wp2_with fail
 (with_reducible refine HI.out.mono ?_)
 rintro e w1 ⟨rfl, hb⟩
 have HB := aS hb
 clear hb
 go_wp2_with fail
 (with_reducible refine (num_step 9 [] 1 [2] (by kernel_rfl) w w1 _ HB.out (Kd.R_nil _ _ _ _ _)).mono ?_)
 rintro e w2 ⟨v2, rfl, hR, hb⟩
 obtain ⟨B2, b2, rfl⟩ := Kd.R_slice hR
 have HV := aS hR
 obtain ⟨x0, x1, x2, x3, x4⟩ := HX.out
 replace x0 := pw_cell_below hb.1 x0
 replace x1 := pw_cell_below hb.1 x1
 replace x2 := pw_cell_below hb.1 x2
 replace x3 := pw_cell_below hb.1 x3
 replace x4 := pw_cell_below hb.1 x4
 replace HB := aS hb.1
 clear hb hR
 go_wp2_with fail
 refine wp_loop_rounds 2 ?_
 rw [rounds_succ]
 go_wp2_with fail
 have BR := aS (blk_new w2 (.cells #[.string ⟨#[102]⟩, .slice A1 1 c1, .slice A2 1 c2, .int .i64 2, .slice (some ⟨bb, bo, bz⟩) 2 c4] 50))
 replace HB := aS (below_alloc HB.out (.cells #[.string ⟨#[102]⟩, .slice A1 1 c1, .slice A2 1 c2, .int .i64 2, .slice (some ⟨bb, bo, bz⟩) 2 c4] 50))
 replace HV := aS (Kd.R_alloc HV.out (.cells #[.string ⟨#[102]⟩, .slice A1 1 c1, .slice A2 1 c2, .int .i64 2, .slice (some ⟨bb, bo, bz⟩) 2 c4] 50))
 clear x0 x1 x2 x3 x4
 generalize hge : w2.alloc (.cells #[.string ⟨#[102]⟩, .slice A1 1 c1, .slice A2 1 c2, .int .i64 2, .slice (some ⟨bb, bo, bz⟩) 2 c4] 50) = w3 at BR HB HV ⊢
 generalize hgr : w2.heap.size = r at BR ⊢
 clear hge hgr
 have D1 := aS (show Kd.C k115 w A1 1 [tyR] from d1)
 have D2 := aS (show Kd.C k115 w A2 1 [tyR] from d2)
 clear d1 d2 l1 l2
 go_region_held3 (fun w' => w'.cell? ⟨r, 0, none⟩ = some (.string ⟨#[102]⟩)) ((first | assumption | exact (blk_cell BR.out 0).trans rfl)) ((first
  | (go_at_call 39; (with_reducible refine (num_step 9 [2] 1 [2, 2] nf1 w _ _ ?side1 ?side2).mono ?_); (case side1 => exact bl HB); (case side2 => exact HV.out); rintro e_ wn ⟨vn, rfl, hR, hb⟩; obtain ⟨Bn, bn, rfl⟩ := Kd.R_slice hR; replace HV := aS hR; replace HB := aS hb.1; replace BR := aS (hb.2 _ _ 50 (by decide) (by (with_reducible repeat (first | refine blk_drewN ?_ _ | refine blk_drew ?_)); exact BR.out)); clear hb hR)
  | ((refine print_append_str_step (w0 := w) w.heap.size (by rfl) (.tmp 30) _ 30 9 5 rfl Tryz.underlying30 Tryz.underlying9 info5 _ [2, 2] ⟨#[102]⟩ rfl rfl ?aO ?aB ?aS (by decide) ?_); (case aO => exact Kd.own_of_R HV.out); (case aB => exact bl HB); (case aS => exact HB.out.size); intro vn wn ho0 hb hg; have hR := Kd.R_of_own (h1 := fun _ => rfl) (ok := fun _ => True) ho0 (fun _ _ => trivial); replace BR := aS (blk_grown (by (with_reducible repeat (first | refine blk_drewN ?_ _ | refine blk_drew ?_)); exact BR.out) hg (Kd.R_ne HV.out BR.out (by decide))); replace HB := aS hb; replace HV := aS (show Kd.R (Kd.int .u8) 5 wn w.heap.size (fun _ => True) vn [2, 2, 102] from hR); obtain ⟨Bn, bn, rfl⟩ := Kd.R_slice HV.out; clear ho0 hb hg hR)
  | fail))
 go_wp2_with fail
 go_region_held3 (fun w' => w'.cell? ⟨r, 1, none⟩ = some (.slice A1 1 c1) ∧ w'.cell? ⟨r, 2, none⟩ = some (.slice A2 1 c2)) ((first | assumption | exact ⟨(blk_cell BR.out 1).trans rfl, (blk_cell BR.out 2).trans rfl⟩)) ((first
  | (go_at_call 39; (with_reducible refine (num_step 9 [2, 2, 102] 1 [2, 2, 102, 2] nf3 w _ _ ?side1 ?side2).mono ?_); (case side1 => exact bl HB); (case side2 => exact HV.out); rintro e_ wn ⟨vn, rfl, hR, hb⟩; obtain ⟨Bn, bn, rfl⟩ := Kd.R_slice hR; replace HV := aS hR; replace HB := aS hb.1; replace BR := aS (hb.2 _ _ 50 (by decide) (by (with_reducible repeat (first | refine blk_drewN ?_ _ | refine blk_drew ?_)); exact BR.out)); clear hb hR)
  | (go_at_call 39; (with_reducible refine (num_step 9 [2, 2, 102, 2] 1 [2, 2, 102, 2, 2] nf4 w _ _ ?side1 ?side2).mono ?_); (case side1 => exact bl HB); (case side2 => exact HV.out); rintro e_ wn ⟨vn, rfl, hR, hb⟩; obtain ⟨Bn, bn, rfl⟩ := Kd.R_slice hR; replace HV := aS hR; replace HB := aS hb.1; replace BR := aS (hb.2 _ _ 50 (by decide) (by (with_reducible repeat (first | refine blk_drewN ?_ _ | refine blk_drew ?_)); exact BR.out)); clear hb hR)
  | fail))
 go_wp2_with fail
 go_region_held3 (fun w' => w'.cell? ⟨r, 1, none⟩ = some (.slice A1 1 c1) ∧ w'.cell? ⟨r, 2, none⟩ = some (.slice A2 1 c2)) ((first | assumption | exact ⟨(blk_cell BR.out 1).trans rfl, (blk_cell BR.out 2).trans rfl⟩)) ((first
  | (go_at_call 40; (with_reducible refine (types_step A1 c1 [2, 2, 102, 2, 2] [2, 2, 102, 2, 2, 2] [2, 2, 102, 2, 2, 2, 0] nf5 nf6 w w _ _ D1.out (Below.refl _ _) ?side1 ?side2).mono ?_); (case side1 => exact bl HB); (case side2 => exact HV.out); rintro e_ wn ⟨vn, rfl, hR, hb⟩; obtain ⟨Bn, bn, rfl⟩ := Kd.R_slice hR; replace HV := aS hR; replace HB := aS hb.1; replace BR := aS (hb.2 _ _ 50 (by decide) (by (with_reducible repeat (first | refine blk_drewN ?_ _ | refine blk_drew ?_)); exact BR.out)); clear hb hR)
  | (go_at_call 40; (with_reducible refine (types_step A2 c2 [2, 2, 102, 2, 2, 2, 0] [2, 2, 102, 2, 2, 2, 0, 2] [2, 2, 102, 2, 2, 2, 0, 2, 0] nf7 nf8 w w _ _ D2.out (Below.refl _ _) ?side1 ?side2).mono ?_); (case side1 => exact bl HB); (case side2 => exact HV.out); rintro e_ wn ⟨vn, rfl, hR, hb⟩; obtain ⟨Bn, bn, rfl⟩ := Kd.R_slice hR; replace HV := aS hR; replace HB := aS hb.1; replace BR := aS (hb.2 _ _ 50 (by decide) (by (with_reducible repeat (first | refine blk_drewN ?_ _ | refine blk_drew ?_)); exact BR.out)); clear hb hR)
  | fail))
 go_wp2_with fail
 go_region_held3 (fun w' => w'.cell? ⟨r, 3, none⟩ = some (.int .i64 2) ∧ w'.cell? ⟨r, 4, none⟩ = some (.slice (some ⟨bb, bo, bz⟩) 2 c4)) ((first | assumption | exact ⟨(blk_cell BR.out 3).trans rfl, (blk_cell BR.out 4).trans rfl⟩)) ((first
  | (go_at_call 39; (with_reducible refine (num_step 9 [2, 2, 102, 2, 2, 2, 0, 2, 0] 2 [2, 2, 102, 2, 2, 2, 0, 2, 0, 4] nf9 w _ _ ?side1 ?side2).mono ?_); (case side1 => exact bl HB); (case side2 => exact HV.out); rintro e_ wn ⟨vn, rfl, hR, hb⟩; obtain ⟨Bn, bn, rfl⟩ := Kd.R_slice hR; replace HV := aS hR; replace HB := aS hb.1; replace BR := aS (hb.2 _ _ 50 (by decide) (by (with_reducible repeat (first | refine blk_drewN ?_ _ | refine blk_drew ?_)); exact BR.out)); clear hb hR)
  | (go_at_call 39; (with_reducible refine (num_step 9 [2, 2, 102, 2, 2, 2, 0, 2, 0, 4] 2 [2, 2, 102, 2, 2, 2, 0, 2, 0, 4, 4] nf10 w _ _ ?side1 ?side2).mono ?_); (case side1 => exact bl HB); (case side2 => exact HV.out); rintro e_ wn ⟨vn, rfl, hR, hb⟩; obtain ⟨Bn, bn, rfl⟩ := Kd.R_slice hR; replace HV := aS hR; replace HB := aS hb.1; replace BR := aS (hb.2 _ _ 50 (by decide) (by (with_reducible repeat (first | refine blk_drewN ?_ _ | refine blk_drew ?_)); exact BR.out)); clear hb hR)
  | fail))
 have r4 := (blk_cell BR.out 4).trans rfl
 go_wp2_with fail
 refine wp_loop_rounds 3 ?_
 clear r4 BR
 rw [rounds_succ]
 obtain ⟨D6, e6, D7, e7, y0, y1, y2, y3, y4, y5, y6, y7⟩ := YM.out
 replace y0 := pw_cell_below HB.out y0
 replace y1 := pw_cell_below HB.out y1
 replace y2 := pw_cell_below HB.out y2
 replace y3 := pw_cell_below HB.out y3
 replace y4 := pw_cell_below HB.out y4
 replace y5 := pw_cell_below HB.out y5
 replace y6 := pw_cell_below HB.out y6
 replace y7 := pw_cell_below HB.out y7
 go_wp2_with fail
 have hof : code_of.f 8 = some (⟨#[109, 117, 108]⟩, 1, 1, 1, false, 0, 0, true) := by kernel_rfl
 (with_reducible refine (code_of.calls 8 _ _ _ _ _ _ _ _ _ ?side1 hof).mono ?_)
 case side1 => exact HG.out.below (below_alloc HB.out _)
 rintro e_ wo ⟨rfl, hb⟩
 have BI := aS (blk_below (blk_new wn (.cells #[.int .i64 8, .int .i64 1, .int .i64 0, .int .i64 0, .int .i64 0, .bool false, .slice D6 0 e6, .slice D7 0 e7] 63)) hb)
 replace HV := aS (Kd.R_below (Kd.R_alloc HV.out _) hb)
 replace HB := aS (bs_ (below_alloc HB.out _) hb)
 have i0 : ∀ o, (wo.alloc o).cell? ⟨wn.heap.size, 0, none⟩ = _ := fun o => (blk_cell (blk_alloc BI.out o) 0).trans rfl
 clear hb hof y0 y1 y2 y3 y4 y5 y6 y7
 go_wp2_with fail
 have BS := aS (blk_new wo (.cells #[.string ⟨#[109, 117, 108]⟩, .int .i64 1, .int .i64 1, .int .i64 1, .bool false, .int .i64 0, .int .i64 0] 72))
 (with_reducible refine (num_step 9 [2, 2, 102, 2, 2, 2, 0, 2, 0, 4, 4] 8 [2, 2, 102, 2, 2, 2, 0, 2, 0, 4, 4, 16] nf11 w _ _ ?side1 ?side2).mono ?_)
 case side1 => exact below_alloc HB.out _
 case side2 => exact Kd.R_alloc HV.out _
 rintro e_ wp ⟨vn, rfl, hR, hb⟩
 obtain ⟨Bn, bn, rfl⟩ := Kd.R_slice hR
 replace BI := aS (hb.2 _ _ _ (by decide) (blk_alloc BI.out _))
 replace BS := aS (hb.2 _ _ _ (by decide) BS.out)
 replace HV := aS hR
 replace HB := aS hb.1
 clear hR hb i0
 have s0 := (blk_cell BS.out 0).trans rfl
 have s1 := (blk_cell BS.out 1).trans rfl
 have s2 := (blk_cell BS.out 2).trans rfl
 have s3 := (blk_cell BS.out 3).trans rfl
 have s4 := (blk_cell BS.out 4).trans rfl
 have s5 := (blk_cell BS.out 5).trans rfl
 have s6 := (blk_cell BS.out 6).trans rfl
 go_wp2_with fail
 (with_reducible refine (uses_calls _ _ _ _ _ _ _ _).mono ?_)
 rintro e_ wq ⟨rfl, hb⟩
 replace BI := aS (blk_below BI.out hb); replace BS := aS (blk_below BS.out hb); replace HV := aS (Kd.R_below HV.out hb); replace HB := aS (bs_ HB.out hb)
 clear hb s0 s1 s2 s3 s5 s6
 replace s4 := (blk_cell BS.out 4).trans rfl
 have i1 := (blk_cell BI.out 1).trans rfl
 have i2 := (blk_cell BI.out 2).trans rfl
 have i3 := (blk_cell BI.out 3).trans rfl
 go_wp2_with fail
 refine wp_loop_rounds 4 ?_
 rw [rounds_succ]
 go_wp2_with (first
  | (go_at_call 43; (with_reducible refine (fields_calls _ _).mono ?_); rintro e_ wr_ ⟨rfl, hb⟩; replace BI := aS (blk_below BI.out hb); replace BS := aS (blk_below BS.out hb); replace HV := aS (Kd.R_below HV.out hb); replace HB := aS (bs_ HB.out hb); replace i1 := (blk_cell BI.out 1).trans rfl; replace i2 := (blk_cell BI.out 2).trans rfl; replace i3 := (blk_cell BI.out 3).trans rfl; replace s4 := (blk_cell BS.out 4).trans rfl; clear hb)
  | (go_at_call 39; (with_reducible refine (num_step 9 [2, 2, 102, 2, 2, 2, 0, 2, 0, 4, 4, 16] 1 [2, 2, 102, 2, 2, 2, 0, 2, 0, 4, 4, 16, 2] nf12 w _ _ ?side1 ?side2).mono ?_); (case side1 => exact HB.out); (case side2 => exact HV.out); rintro e_ wn ⟨vn, rfl, hR, hb⟩; obtain ⟨Bn, bn, rfl⟩ := Kd.R_slice hR; replace BI := aS (hb.2 _ _ 63 (by decide) BI.out); replace BS := aS (hb.2 _ _ 72 (by decide) BS.out); replace HV := aS hR; replace HB := aS hb.1; replace i1 := (blk_cell BI.out 1).trans rfl; replace i2 := (blk_cell BI.out 2).trans rfl; replace i3 := (blk_cell BI.out 3).trans rfl; replace s4 := (blk_cell BS.out 4).trans rfl; clear hR hb))
 rw [rounds_succ]
 go_wp2_with (first
  | (go_at_call 43; (with_reducible refine (fields_calls _ _).mono ?_); rintro e_ wr_ ⟨rfl, hb⟩; replace BI := aS (blk_below BI.out hb); replace BS := aS (blk_below BS.out hb); replace HV := aS (Kd.R_below HV.out hb); replace HB := aS (bs_ HB.out hb); replace i1 := (blk_cell BI.out 1).trans rfl; replace i2 := (blk_cell BI.out 2).trans rfl; replace i3 := (blk_cell BI.out 3).trans rfl; replace s4 := (blk_cell BS.out 4).trans rfl; clear hb)
  | (go_at_call 39; (with_reducible refine (num_step 9 [2, 2, 102, 2, 2, 2, 0, 2, 0, 4, 4, 16, 2] 0 [2, 2, 102, 2, 2, 2, 0, 2, 0, 4, 4, 16, 2, 0] nf13 w _ _ ?side1 ?side2).mono ?_); (case side1 => exact HB.out); (case side2 => exact HV.out); rintro e_ wn ⟨vn, rfl, hR, hb⟩; obtain ⟨Bn, bn, rfl⟩ := Kd.R_slice hR; replace BI := aS (hb.2 _ _ 63 (by decide) BI.out); replace BS := aS (hb.2 _ _ 72 (by decide) BS.out); replace HV := aS hR; replace HB := aS hb.1; replace i1 := (blk_cell BI.out 1).trans rfl; replace i2 := (blk_cell BI.out 2).trans rfl; replace i3 := (blk_cell BI.out 3).trans rfl; replace s4 := (blk_cell BS.out 4).trans rfl; clear hR hb))
 rw [rounds_succ]
 go_wp2_with (first
  | (go_at_call 43; (with_reducible refine (fields_calls _ _).mono ?_); rintro e_ wr_ ⟨rfl, hb⟩; replace BI := aS (blk_below BI.out hb); replace BS := aS (blk_below BS.out hb); replace HV := aS (Kd.R_below HV.out hb); replace HB := aS (bs_ HB.out hb); replace i1 := (blk_cell BI.out 1).trans rfl; replace i2 := (blk_cell BI.out 2).trans rfl; replace i3 := (blk_cell BI.out 3).trans rfl; replace s4 := (blk_cell BS.out 4).trans rfl; clear hb)
  | (go_at_call 39; (with_reducible refine (num_step 9 [2, 2, 102, 2, 2, 2, 0, 2, 0, 4, 4, 16, 2, 0] 0 [2, 2, 102, 2, 2, 2, 0, 2, 0, 4, 4, 16, 2, 0, 0] nf14 w _ _ ?side1 ?side2).mono ?_); (case side1 => exact HB.out); (case side2 => exact HV.out); rintro e_ wn ⟨vn, rfl, hR, hb⟩; obtain ⟨Bn, bn, rfl⟩ := Kd.R_slice hR; replace BI := aS (hb.2 _ _ 63 (by decide) BI.out); replace BS := aS (hb.2 _ _ 72 (by decide) BS.out); replace HV := aS hR; replace HB := aS hb.1; replace i1 := (blk_cell BI.out 1).trans rfl; replace i2 := (blk_cell BI.out 2).trans rfl; replace i3 := (blk_cell BI.out 3).trans rfl; replace s4 := (blk_cell BS.out 4).trans rfl; clear hR hb))
 rw [rounds_succ]
 go_wp2_with fail
 clear i1 i2 i3 s4 BI BS
 rw [rounds_succ]
 obtain ⟨D6, e6, D7, e7, y0, y1, y2, y3, y4, y5, y6, y7⟩ := YT.out
 replace y0 := pw_cell_below HB.out y0
 replace y1 := pw_cell_below HB.out y1
 replace y2 := pw_cell_below HB.out y2
 replace y3 := pw_cell_below HB.out y3
 replace y4 := pw_cell_below HB.out y4
 replace y5 := pw_cell_below HB.out y5
 replace y6 := pw_cell_below HB.out y6
 replace y7 := pw_cell_below HB.out y7
 go_wp2_with fail
 have hof : code_of.f 26 = some (⟨#[114, 101, 116, 117, 114, 110]⟩, 6, 0, 0, false, 0, 0, true) := by kernel_rfl
 (with_reducible refine (code_of.calls 26 _ _ _ _ _ _ _ _ _ ?side1 hof).mono ?_)
 case side1 => exact HG.out.below (below_alloc HB.out _)
 rintro e_ wo ⟨rfl, hb⟩
 have BI := aS (blk_below (blk_new wn (.cells #[.int .i64 26, .int .i64 1, .int .i64 0, .int .i64 0, .int .i64 0, .bool false, .slice D6 0 e6, .slice D7 0 e7] 63)) hb)
 replace HV := aS (Kd.R_below (Kd.R_alloc HV.out _) hb)
 replace HB := aS (bs_ (below_alloc HB.out _) hb)
 have i0 : ∀ o, (wo.alloc o).cell? ⟨wn.heap.size, 0, none⟩ = _ := fun o => (blk_cell (blk_alloc BI.out o) 0).trans rfl
 clear hb hof y0 y1 y2 y3 y4 y5 y6 y7
 go_wp2_with fail
 have BS := aS (blk_new wo (.cells #[.string ⟨#[114, 101, 116, 117, 114, 110]⟩, .int .i64 6, .int .i64 0, .int .i64 0, .bool false, .int .i64 0, .int .i64 0] 72))
 (with_reducible refine (num_step 9 [2, 2, 102, 2, 2, 2, 0, 2, 0, 4, 4, 16, 2, 0, 0] 26 [2, 2, 102, 2, 2, 2, 0, 2, 0, 4, 4, 16, 2, 0, 0, 52] nf15 w _ _ ?side1 ?side2).mono ?_)
 case side1 => exact below_alloc HB.out _
 case side2 => exact Kd.R_alloc HV.out _
 rintro e_ wp ⟨vn, rfl, hR, hb⟩
 obtain ⟨Bn, bn, rfl⟩ := Kd.R_slice hR
 replace BI := aS (hb.2 _ _ _ (by decide) (blk_alloc BI.out _))
 replace BS := aS (hb.2 _ _ _ (by decide) BS.out)
 replace HV := aS hR
 replace HB := aS hb.1
 clear hR hb i0
 have s0 := (blk_cell BS.out 0).trans rfl
 have s1 := (blk_cell BS.out 1).trans rfl
 have s2 := (blk_cell BS.out 2).trans rfl
 have s3 := (blk_cell BS.out 3).trans rfl
 have s4 := (blk_cell BS.out 4).trans rfl
 have s5 := (blk_cell BS.out 5).trans rfl
 have s6 := (blk_cell BS.out 6).trans rfl
 go_wp2_with fail
 (with_reducible refine (uses_calls _ _ _ _ _ _ _ _).mono ?_)
 rintro e_ wq ⟨rfl, hb⟩
 replace BI := aS (blk_below BI.out hb); replace BS := aS (blk_below BS.out hb); replace HV := aS (Kd.R_below HV.out hb); replace HB := aS (bs_ HB.out hb)
 clear hb s0 s1 s2 s3 s5 s6
 replace s4 := (blk_cell BS.out 4).trans rfl
 have i1 := (blk_cell BI.out 1).trans rfl
 have i2 := (blk_cell BI.out 2).trans rfl
 have i3 := (blk_cell BI.out 3).trans rfl
 go_wp2_with fail
 refine wp_loop_rounds 4 ?_
 rw [rounds_succ]
 go_wp2_with (first
  | (go_at_call 43; (with_reducible refine (fields_calls _ _).mono ?_); rintro e_ wr_ ⟨rfl, hb⟩; replace BI := aS (blk_below BI.out hb); replace BS := aS (blk_below BS.out hb); replace HV := aS (Kd.R_below HV.out hb); replace HB := aS (bs_ HB.out hb); replace i1 := (blk_cell BI.out 1).trans rfl; replace i2 := (blk_cell BI.out 2).trans rfl; replace i3 := (blk_cell BI.out 3).trans rfl; replace s4 := (blk_cell BS.out 4).trans rfl; clear hb)
  | (go_at_call 39; (with_reducible refine (num_step 9 [2, 2, 102, 2, 2, 2, 0, 2, 0, 4, 4, 16, 2, 0, 0, 52] 1 [2, 2, 102, 2, 2, 2, 0, 2, 0, 4, 4, 16, 2, 0, 0, 52, 2] nf16 w _ _ ?side1 ?side2).mono ?_); (case side1 => exact HB.out); (case side2 => exact HV.out); rintro e_ wn ⟨vn, rfl, hR, hb⟩; obtain ⟨Bn, bn, rfl⟩ := Kd.R_slice hR; replace BI := aS (hb.2 _ _ 63 (by decide) BI.out); replace BS := aS (hb.2 _ _ 72 (by decide) BS.out); replace HV := aS hR; replace HB := aS hb.1; replace i1 := (blk_cell BI.out 1).trans rfl; replace i2 := (blk_cell BI.out 2).trans rfl; replace i3 := (blk_cell BI.out 3).trans rfl; replace s4 := (blk_cell BS.out 4).trans rfl; clear hR hb))
 rw [rounds_succ]
 go_wp2
 rw [rounds_succ]
 go_wp2
 rw [rounds_succ]
 go_wp2_with fail
 clear i1 i2 i3 s4 BI BS
 rw [rounds_succ]
 go_wp2_with fail
 rw [rounds_succ]
 go_wp2_with fail
 have HS : Aside0 (Calls Tryz.prog 45 #[.slice Bn 17 bn] wn fun e w' => e = .returned (.int .i64 194) ∧ Drawn0 wn w') := ⟨code_sum.calls 20 Bn bn [2, 2, 102, 2, 2, 2, 0, 2, 0, 4, 4, 16, 2, 0, 0, 52, 2] 194 wn (Kd.R_reads' HV.out).2.2 (Kd.R_reads' HV.out).2.1 (by kernel_rfl)⟩
 (with_reducible refine HS.out.mono ?_)
 rintro e_ w0_ ⟨rfl, ⟨nd, rfl⟩⟩
 go_wp2_with (first
  | (go_at_call 39; (with_reducible refine (num_step 9 [2, 2, 102, 2, 2, 2, 0, 2, 0, 4, 4, 16, 2, 0, 0, 52, 2] 194 [2, 2, 102, 2, 2, 2, 0, 2, 0, 4, 4, 16, 2, 0, 0, 52, 2, 132, 3] nf17 w _ _ ?side1 ?side2).mono ?_); (case side1 => exact bl HB); (case side2 => exact HV.out); rintro e_ wz ⟨vz, rfl, hR, hb⟩; have HR := aS hR; have HZ := aS hb.1; obtain ⟨Bz, nz, rfl⟩ := Kd.R_slice hR; clear hR hb))
 refine bodyPost_ret (by simp [results, Tryz.results17, go_sem]) rfl ⟨_, rfl, HR.out, HZ.out⟩
def code_Bytes.f (l : List S50) : Option (List Int × Int) := if isSq l = true then some (sqBytes, 0) else none
theorem code_Bytes.calls (A0 : Option Addr) (c0 : Nat) (l0 : List S50) (r1 : List Int) (r2 : Int) (w : World) (hG : GW w) (hr0 : Kd.C k50 w A0 l0.length l0) (hc0 : l0.length ≤ c0) (h : code_Bytes.f l0 = some (r1, r2)) :
 Calls Tryz.prog 17 #[.slice A0 l0.length c0] w fun e w' => ∃ v0_ : Value, e = .returned (.tuple #[v0_, .int .i64 r2]) ∧ Kd.R (Kd.int .u8) 5 w' w.heap.size (fun _ => True) v0_ r1 ∧ Below w.heap.size w w' := by
 unfold code_Bytes.f at h
 by_cases hs : isSq l0 = true
 ·rw [if_pos hs] at h
  simp only [Option.some.injEq, Prod.mk.injEq] at h
  obtain ⟨rfl, rfl⟩ := h
  obtain rfl := isSq_of hs
  exact bytes_sq A0 c0 w hG hr0 hc0
 ·rw [if_neg hs] at h
  cases h
end Go.Proofs.YtbkknoipgmlcmaaGreatDoor.P

