import Derived.Test.YtbkknoipgmlcmaaGreatDoorQCM35
import Derived.Test.YtbkknoipgmlcmaaGreatDoorQCM33
set_option linter.unusedVariables false
set_option linter.unusedSimpArgs false
set_option maxHeartbeats 8000000
set_option maxRecDepth 100000
namespace Go.Proofs.YtbkknoipgmlcmaaGreatDoor.P
open Go.RowKit Go.Proofs.YtbkknoipgmlcmaaGreatDoorW.PrintWords Go.Proofs.YtbkknoipgmlcmaaGreatDoorW.PrintLast Go.Proofs.YtbkknoipgmlcmaaGreatDoorW.PrintMore
open Go.Proofs.FX
attribute [local go_sem] Instr.index cell_twice le_add_cast
theorem equal_two (ab ao bb bo : Nat) (al bl : Option Nat) (c d : Nat) (x y : Int) (w : World) (a0 : w.cell? ⟨ab, ao, al⟩ = some (.int .u8 x)) (a1 : w.cell? ⟨ab, ao + 1, none⟩ = some (.int .u8 y)) (b0 : w.cell? ⟨bb, bo, bl⟩ = some (.int .u8 x)) (b1 : w.cell? ⟨bb, bo + 1, none⟩ = some (.int .u8 y)) :
 Calls Tryz.prog 65 #[.slice (some ⟨ab, ao, al⟩) 2 c, .slice (some ⟨bb, bo, bl⟩) 2 d] w fun e w' => e = .returned (.bool true) ∧ Drawn0 w w' := by
 go_enter Tryz.func65, Tryz.ntmps65
 go_wp2
 refine wp_loop_rounds 3 ?_
 rw [rounds_succ]
 go_wp2
 go_quiet (fail)
 go_wp2
 rw [rounds_succ]
 go_wp2
 go_quiet (fail)
 go_wp2
 rw [rounds_succ]
 go_wp2
 all_goals go_ret
 all_goals exact ⟨rfl, ⟨_, rfl⟩⟩
theorem R_held {α : Type} {d : Kd α} {e base : Nat} {v : Value} {xs : List α} {w0 W W' : World} (h : d.R e W base (fun _ => True) v xs) (hb : Held w0 W W') (ht : ∀ q, q ∈ e :: d.E → q ≠ 5 := by decide) : d.R e W' base (fun _ => True) v xs :=
 Kd.R_mono (Kd.R_step (Kd.R_bound h) (fun k hk _ => by
  obtain ⟨_, _, _, q, hq, cs, hc⟩ := hk
  rw [hb.2 k cs q (ht q hq) hc, hc])) (fun _ _ => trivial)
theorem tb {a b c : World} (h : Aside0 (Below a.heap.size a b)) (k : Below b.heap.size b c) : Below a.heap.size a c := h.out.trans (k.mono h.out.size)
def prs16 : Bool × List (List Nat × List Nat) := (true, [([], []), ([0], [0]), ([], []), ([2], [2]), ([3], [3]), ([1, 4, 3], [1, 4]), ([0, 1, 2, 3, 4, 5], []), ([6, 5, 5, 0, 1, 2, 3, 4, 5], [5, 6])])
def prs16B : List Nat := [0, 1, 0, 4, 12, 31, 63, 127]
theorem prs16_tab : rtab .any (opsOf Tryz.f22 16) = prs16 := by kernel_rfl
theorem prs16_bits : waitsOk prs16.2 prs16B = true := by kernel_rfl
theorem parse_at (ab ao : Nat) (al : Option Nat) (c : Nat) (w : World) (hG : GW w) (hr : Kd.C (Kd.int .u8) w (some ⟨ab, ao, al⟩) 19 sqBytes) (hc : 19 ≤ c) :
 Calls Tryz.prog 22 #[.slice (some ⟨ab, ao, al⟩) 19 c] w fun e w' => ∃ v, e = .returned (.tuple #[v, .int .i64 0, .int .i64 0]) ∧ Kd.R k50 50 w' w.heap.size (fun _ => True) v [sqR] ∧ Below w.heap.size w w' := by
 have hu50 := Tryz.underlying50
 have hu104 := Tryz.underlying104
 have HG := aS hG
 have HCl : Aside0 (Calls Tryz.prog 59 #[.slice (some ⟨ab, ao, al⟩) 19 c] w fun e w' => ∃ v, e = .returned v ∧ Kd.R (Kd.int .u8) 5 w' w.heap.size (fun _ => True) v sqBytes ∧ Below w.heap.size w w') := ⟨clone_calls _ c sqBytes w hr (by decide)⟩
 have HS : Aside0 (∀ W, Below w.heap.size w W → Calls Tryz.prog 45 #[.slice (some ⟨ab, ao, al⟩) 17 c] W fun e w' => e = .returned (.int .i64 194) ∧ Drawn0 W w') := ⟨fun W hb => code_sum.calls 20 (some ⟨ab, ao, al⟩) c (sqBytes.take 17) 194 W (Kd.C_take (m := 17) (Kd.C_below hr hb) (by decide)) (Nat.le_trans (by decide) hc) (by kernel_rfl)⟩
 have hA : w.cell? ⟨ab, ao + 17, none⟩ = some (.int .u8 132) ∧ w.cell? ⟨ab, ao + 17 + 1, none⟩ = some (.int .u8 3) := by
  obtain ⟨ad, he, h⟩ := (Kd.reads_of_C (enc := Value.int .u8) (d := (0 : Int)) (h1 := fun _ => rfl) hr).2.2 (by decide)
  injection he with he
  subst he
  exact ⟨h 17 (by decide), h 18 (by decide)⟩
 have HA := aS hA
 clear hA
 have k1 : (17 ≤ (c : Int)) = True := eq_true (by omega)
 have k2 : (17 ≤ c) = True := eq_true (by omega)
 have k3 : (c = 17) = False := eq_false (by omega)
 have k4 : (19 ≤ (c : Int)) = True := eq_true (by omega)
 have k5 : (19 ≤ c) = True := eq_true (by omega)
 clear hG hr hc
 go_enter Tryz.func22, Tryz.ntmps22
 go_wp2_with fail
 (with_reducible refine HCl.out.mono ?_)
 rintro e_ w1 ⟨v1, rfl, hR, hb⟩
 obtain ⟨Ac, cc, rfl⟩ := Kd.R_slice hR
 have hq := Kd.R_reads' hR
 have HB1 := aS hb
 replace HG := aS (HG.out.below hb)
 have HI := aS (IsS104.new w1 w1 Ac cc sqBytes 0 (-1) (Below.refl _ _) hq.2.2 hq.2.1)
 have HB := aS (below_alloc (Below.refl w1.heap.size w1) (.cells #[.slice Ac sqBytes.length cc, .int .i64 0, .int .i64 (-1)] 104))
 clear hR hb hq HCl
 go_wp2_with fail
 generalize w1.alloc (.cells #[.slice Ac sqBytes.length cc, .int .i64 0, .int .i64 (-1)] 104) = w2 at HI HB ⊢
 generalize hgg : w1.heap.size = g at HI ⊢
 clear hgg
 (with_reducible refine (many_c 0 0 1 2 1 rfl rfl (by decide) rfl (by decide) (by decide) g _ _ HI.out HB.out).mono ?_)
 rintro e_ w3 ⟨rfl, hi, hb, hk⟩
 replace HI := aS hi
 replace HB := aS hb
 clear hi hb hk
 go_wp2
 refine wp_loop_rounds 2 ?_
 rw [rounds_succ]
 obtain ⟨Az, cz, hz, -⟩ := HI.out
 have z2 := cellS104_2 hz
 clear hz
 go_wp2_with fail
 clear z2
 (with_reducible refine (text_at  g _ _ HI.out HB.out).mono ?_)
 rintro e_ w4 ⟨rfl, hi, hb, hk⟩
 replace HI := aS hi
 replace HB := aS hb
 clear hi hb hk
 go_wp2_with fail
 have BX := aS (blk_new w4 (.cells #[.string ⟨#[102]⟩, .slice none 0 0, .slice none 0 0, .int .i64 0, .slice none 0 0] 50))
 have NX := aS (Nat.ne_of_gt HI.out.lt)
 have ZX := aS HB.out.size
 replace HI := aS (HI.out.alloc (.cells #[.string ⟨#[102]⟩, .slice none 0 0, .slice none 0 0, .int .i64 0, .slice none 0 0] 50))
 replace HB := aS (below_alloc HB.out (.cells #[.string ⟨#[102]⟩, .slice none 0 0, .slice none 0 0, .int .i64 0, .slice none 0 0] 50))
 generalize w4.alloc (.cells #[.string ⟨#[102]⟩, .slice none 0 0, .slice none 0 0, .int .i64 0, .slice none 0 0] 50) = wx at HI HB BX ⊢
 generalize w4.heap.size = gx at BX NX ZX ⊢
 (with_reducible refine (many_c 3 3 4 2 1 rfl rfl (by decide) rfl (by decide) (by decide) g _ _ HI.out HB.out).mono ?_)
 rintro e_ w5 ⟨rfl, hi, hb, hk⟩
 replace BX := aS (KeepBut.blk hk BX.out NX.out (by simp))
 replace HI := aS hi
 replace HB := aS hb
 clear hi hb hk
 go_wp2_with fail
 (with_reducible refine (many_c 4 4 5 2 1 rfl rfl (by decide) rfl (by decide) (by decide) g _ _ HI.out HB.out).mono ?_)
 rintro e_ w6 ⟨rfl, hi, hb, hk⟩
 replace BX := aS (KeepBut.blk hk BX.out NX.out (by simp))
 replace HI := aS hi
 replace HB := aS hb
 clear hi hb hk
 go_wp2_with fail
 (with_reducible refine (types_at 5 (by decide) rfl rfl g _ _ HI.out HB.out).mono ?_)
 rintro e_ w7 ⟨v_, rfl, hR, hi, hb, hk⟩
 have RP := aS (Kd.R_lower hR HB.out.size)
 obtain ⟨ARP, cRP, rfl⟩ := Kd.R_slice RP.out
 replace BX := aS (KeepBut.blk hk BX.out NX.out (by simp))
 replace HI := aS hi
 replace HB := aS hb
 clear hi hb hk
 have hs := (blk_cell BX.out 1).trans rfl
 have hf := blk_frozen BX.out 1
 go_wp2_with fail
 clear hs hf
 replace RP := aS (Kd.R_set RP.out BX.out (by decide) 1 (.slice ARP 1 cRP))
 replace HI := aS (IsS104.far HI.out (p := ⟨gx, 1, none⟩) (Ne.symm NX.out) (.slice ARP 1 cRP))
 replace HB := aS (below_set (j := 1) (v := .slice ARP 1 cRP) HB.out ZX.out)
 replace BX := aS (blk_put BX.out 1 (.slice ARP 1 cRP) rfl)
 generalize World.setCell _ ⟨gx, 1, none⟩ (.slice ARP 1 cRP) = w8 at RP HI HB BX ⊢
 (with_reducible refine (types_at 7 (by decide) rfl rfl g _ _ HI.out HB.out).mono ?_)
 rintro e_ w9 ⟨v_, rfl, hR, hi, hb, hk⟩
 have RQ := aS (Kd.R_lower hR HB.out.size)
 obtain ⟨ARQ, cRQ, rfl⟩ := Kd.R_slice RQ.out
 replace RP := aS (R_rd HI.out RP.out hk)
 replace BX := aS (KeepBut.blk hk BX.out NX.out (by simp))
 replace HI := aS hi
 replace HB := aS hb
 clear hi hb hk
 have hs := (blk_cell BX.out 2).trans rfl
 have hf := blk_frozen BX.out 2
 go_wp2_with fail
 clear hs hf
 replace RP := aS (Kd.R_set RP.out BX.out (by decide) 2 (.slice ARQ 1 cRQ))
 replace RQ := aS (Kd.R_set RQ.out BX.out (by decide) 2 (.slice ARQ 1 cRQ))
 replace HI := aS (IsS104.far HI.out (p := ⟨gx, 2, none⟩) (Ne.symm NX.out) (.slice ARQ 1 cRQ))
 replace HB := aS (below_set (j := 2) (v := .slice ARQ 1 cRQ) HB.out ZX.out)
 replace BX := aS (blk_put BX.out 2 (.slice ARQ 1 cRQ) rfl)
 generalize World.setCell _ ⟨gx, 2, none⟩ (.slice ARQ 1 cRQ) = w10 at RP RQ HI HB BX ⊢
 (with_reducible refine (whole_c 9 9 10 4 2 rfl rfl (by decide) rfl (by decide) g _ _ HI.out HB.out).mono ?_)
 rintro e_ w11 ⟨rfl, hi, hb, hk⟩
 replace RP := aS (R_rd HI.out RP.out hk)
 replace RQ := aS (R_rd HI.out RQ.out hk)
 replace BX := aS (KeepBut.blk hk BX.out NX.out (by simp))
 replace HI := aS hi
 replace HB := aS hb
 clear hi hb hk
 have hs := (blk_cell BX.out 3).trans rfl
 have hf := blk_frozen BX.out 3
 go_wp2_with fail
 clear hs hf
 replace RP := aS (Kd.R_set RP.out BX.out (by decide) 3 (.int .i64 2))
 replace RQ := aS (Kd.R_set RQ.out BX.out (by decide) 3 (.int .i64 2))
 replace HI := aS (IsS104.far HI.out (p := ⟨gx, 3, none⟩) (Ne.symm NX.out) (.int .i64 2))
 replace HB := aS (below_set (j := 3) (v := .int .i64 2) HB.out ZX.out)
 replace BX := aS (blk_put BX.out 3 (.int .i64 2) rfl)
 generalize World.setCell _ ⟨gx, 3, none⟩ (.int .i64 2) = w12 at RP RQ HI HB BX ⊢
 (with_reducible refine (many_c 10 10 11 4 2 rfl rfl (by decide) rfl (by decide) (by decide) g _ _ HI.out HB.out).mono ?_)
 rintro e_ w13 ⟨rfl, hi, hb, hk⟩
 replace RP := aS (R_rd HI.out RP.out hk)
 replace RQ := aS (R_rd HI.out RQ.out hk)
 replace BX := aS (KeepBut.blk hk BX.out NX.out (by simp))
 replace HI := aS hi
 replace HB := aS hb
 clear hi hb hk
 go_wp2
 refine wp_loop_rounds 3 ?_
 rw [rounds_succ]
 obtain ⟨Az, cz, hz, -⟩ := HI.out
 have z2 := cellS104_2 hz
 clear hz
 go_wp2
 clear z2
 replace RP := aS (Kd.R_drew RP.out)
 replace RQ := aS (Kd.R_drew RQ.out)
 replace HI := aS HI.out.drew
 replace HB := aS (below_drew1 HB.out)
 replace BX := aS (blk_drew BX.out)
 refine start_ (n := 8) (S := fun w' => w'.cell? ⟨gx, 4, none⟩ = some (.slice none 0 0)) (ds := [7]) (mk 8 0) (by kernel_rfl) rfl (by kernel_rfl) ((blk_cell BX.out 4).trans rfl) (fun hHeld => ?_)
 refine with_tabW prs16_tab prs16_bits (fun HT_ HW_ => ?_)
 generalize World.drew _ = w14 at RP RQ HI HB BX hHeld ⊢
 refine pu 0 66 (mk 8 1) (any_of HT_.out (by kernel_rfl)) ?_
 refine pu 2 68 (mk 8 5) (any_of HT_.out (by kernel_rfl)) ?_
 refine tk 1 67 (mk 8 7) (take_ofW HT_.out HW_.out (by kernel_rfl)) hHeld ?_
 refine one_ (i := 3) (N := some 69) (mk 8 15) rfl rfl (one_of HT_.out (by kernel_rfl)) (by decide) (fun K hK => ?_)
 refine goes_ Tryz.func64 (by kernel_rfl) rfl #[.pointer (some ⟨g, 0, none⟩)] (by rfl) rfl rfl (by (try simp only [List.map_toArray, List.map_cons, List.map_nil]); first | done | rfl) ?_
 with_reducible refine (insM_at g _ _ HG.out HI.out HB.out).mono ?_
 rintro e_ w15 ⟨rfl, hi, hb, hk⟩
 refine ⟨_, rfl, ?_⟩
 replace RP := aS (R_rd HI.out RP.out hk)
 replace RQ := aS (R_rd HI.out RQ.out hk)
 replace BX := aS (KeepBut.blk hk BX.out NX.out (by simp))
 replace HI := aS hi
 replace HB := aS hb
 clear hi hb hk
 refine hK.out _ _ ((blk_cell BX.out 4).trans rfl) (fun hHeld => ?_)
 clear hK K
 refine norm_ (a' := ?_) ?_ ?_
 rotate_left
 ·show Act.put _ (some 69) _ = _
  simp only [Act.put, List.setIfInBounds_toArray, List.set_cons_zero, List.set_cons_succ, i64_w, i32_w]
  rfl
 refine one_ (i := 4) (N := some 70) (mk 8 31) rfl rfl (one_of HT_.out (by kernel_rfl)) (by decide) (fun K hK => ?_)
 refine value_ (w1 := ?_) (v := ?_) (by rfl) rfl ?_ ?_
 rotate_left 2
 ·go_simp
  constructor
  ·rfl
  ·rfl
 refine hK.out _ _ ((blk_cell (blk_alloc BX.out _) 4).trans rfl) (fun hHeld => ?_)
 clear hK K
 refine norm_ (a' := ?_) ?_ ?_
 rotate_left
 ·show Act.put _ (some 70) _ = _
  simp only [Act.put, List.setIfInBounds_toArray, List.set_cons_zero, List.set_cons_succ, i64_w, i32_w]
  rfl
 refine one_ (i := 5) (N := some 71) (mk 8 63) rfl rfl (one_of HT_.out (by kernel_rfl)) (by decide) (fun K hK => ?_)
 refine Kd.R_append_step k63 w1.heap.size (by rfl) (.tmp 67) (.tmp 70) 48 63 (.agg #[(.int .i64 0), (.int .i64 0), (.int .i64 0), (.int .i64 0), (.int .i64 0), (.bool false), (.slice none 0 0), (.slice none 0 0)]) 96 rfl Tryz.underlying48 info63 rfl (by decide) (by omega) (.slice none 0 0) [] insM [.int .i64 8, .int .i64 1, .int .i64 0, .int .i64 0, .int .i64 0, .bool false, .slice none 0 0, .slice none 0 0] (fun _ => True) (fun _ => False) rfl rfl (k63_mkM _ _ _ insM (Kd.R_nil _ _ _ _ _) (Kd.R_nil _ _ _ _ _)) (fun _ hk => hk.elim) (fun _ _ => trivial) (Kd.R_nil _ _ _ _ _) (Below.refl _ _) HB.out.size (by decide) ?_
 intro v_ w16 hR hb hg hat
 replace RP := aS (Kd.R_grown RP.out hg (fun _ _ => by simp [Value.ownBlock]))
 replace RQ := aS (Kd.R_grown RQ.out hg (fun _ _ => by simp [Value.ownBlock]))
 have hne : some gx ≠ (Value.slice none 0 0).ownBlock := by simp [Value.ownBlock]
 have hng : some g ≠ (Value.slice none 0 0).ownBlock := by simp [Value.ownBlock]
 replace BX := aS (blk_grown BX.out hg hne)
 replace HI := aS (IsS104.grown HI.out hg hng)
 replace HB := aS (HB.out.trans hb)
 have RI := aS (show Kd.R k63 63 w16 w1.heap.size (fun _ => True) v_ [insM] from hR)
 clear hb hg hat hne hng hR
 obtain ⟨Ai, ci, rfl⟩ := Kd.R_slice RI.out
 refine hK.out _ _ ((blk_cell BX.out 4).trans rfl) (fun hHeld => ?_)
 clear hK K
 refine norm_ (a' := ?_) ?_ ?_
 rotate_left
 ·show Act.put _ (some 71) _ = _
  simp only [Act.put, List.setIfInBounds_toArray, List.set_cons_zero, List.set_cons_succ, i64_w, i32_w]
  rfl
 refine pu 6 72 (mk 8 127) (any_of HT_.out (by kernel_rfl)) ?_
 refine last_ (i := 7) (N := none) (mk 8 255) rfl rfl (one_of HT_.out (by kernel_rfl)) (by decide) (fun K hK => ?_)
 have hs := (blk_cell BX.out 4).trans rfl
 have hf := blk_frozen BX.out 4
 refine skip_ (w1 := ?_) (by rfl) rfl ?_ ?_
 rotate_left
 ·go_simp
  rfl
 refine hK.out _ _ ?_
 clear hK K hs hf hHeld
 replace RP := aS (Kd.R_set RP.out BX.out (by decide) 4 (.slice Ai 1 ci))
 replace RQ := aS (Kd.R_set RQ.out BX.out (by decide) 4 (.slice Ai 1 ci))
 replace RI := aS (Kd.R_set RI.out BX.out (by decide) 4 (.slice Ai 1 ci))
 replace HI := aS (IsS104.far HI.out (p := ⟨gx, 4, none⟩) (Ne.symm NX.out) (.slice Ai 1 ci))
 replace HB := aS (below_set (j := 4) (v := .slice Ai 1 ci) HB.out ZX.out)
 replace BX := aS (blk_put BX.out 4 (.slice Ai 1 ci) rfl)
 generalize World.setCell _ ⟨gx, 4, none⟩ (.slice Ai 1 ci) = w17 at RP RQ RI HI HB BX ⊢
 refine done_ (done_of HT_.out (by kernel_rfl)) ?_
 clear HT_ HW_
 go_wp2
 rw [rounds_succ]
 obtain ⟨Az, cz, hz, -⟩ := HI.out
 have z2 := cellS104_2 hz
 clear hz
 go_wp2
 clear z2
 replace RP := aS (Kd.R_drew RP.out)
 replace RQ := aS (Kd.R_drew RQ.out)
 replace RI := aS (Kd.R_drew RI.out)
 replace HI := aS HI.out.drew
 replace HB := aS (below_drew1 HB.out)
 replace BX := aS (blk_drew BX.out)
 refine start_ (n := 8) (S := fun w' => w'.cell? ⟨gx, 4, none⟩ = some (.slice Ai 1 ci)) (ds := [7]) (mk 8 0) (by kernel_rfl) rfl (by kernel_rfl) ((blk_cell BX.out 4).trans rfl) (fun hHeld => ?_)
 refine with_tabW prs16_tab prs16_bits (fun HT_ HW_ => ?_)
 generalize World.drew _ = w18 at RP RQ RI HI HB BX hHeld ⊢
 refine pu 0 66 (mk 8 1) (any_of HT_.out (by kernel_rfl)) ?_
 refine pu 2 68 (mk 8 5) (any_of HT_.out (by kernel_rfl)) ?_
 refine tk 1 67 (mk 8 7) (take_ofW HT_.out HW_.out (by kernel_rfl)) hHeld ?_
 refine one_ (i := 3) (N := some 69) (mk 8 15) rfl rfl (one_of HT_.out (by kernel_rfl)) (by decide) (fun K hK => ?_)
 refine goes_ Tryz.func64 (by kernel_rfl) rfl #[.pointer (some ⟨g, 0, none⟩)] (by rfl) rfl rfl (by (try simp only [List.map_toArray, List.map_cons, List.map_nil]); first | done | rfl) ?_
 with_reducible refine (insT_at g _ _ HG.out HI.out HB.out).mono ?_
 rintro e_ w19 ⟨rfl, hi, hb, hk⟩
 refine ⟨_, rfl, ?_⟩
 replace RP := aS (R_rd HI.out RP.out hk)
 replace RQ := aS (R_rd HI.out RQ.out hk)
 replace RI := aS (R_rd HI.out RI.out hk)
 replace BX := aS (KeepBut.blk hk BX.out NX.out (by simp))
 replace HI := aS hi
 replace HB := aS hb
 clear hi hb hk
 refine hK.out _ _ ((blk_cell BX.out 4).trans rfl) (fun hHeld => ?_)
 clear hK K
 refine norm_ (a' := ?_) ?_ ?_
 rotate_left
 ·show Act.put _ (some 69) _ = _
  simp only [Act.put, List.setIfInBounds_toArray, List.set_cons_zero, List.set_cons_succ, i64_w, i32_w]
  rfl
 refine one_ (i := 4) (N := some 70) (mk 8 31) rfl rfl (one_of HT_.out (by kernel_rfl)) (by decide) (fun K hK => ?_)
 refine value_ (w1 := ?_) (v := ?_) (by rfl) rfl ?_ ?_
 rotate_left 2
 ·go_simp
  constructor
  ·rfl
  ·rfl
 refine hK.out _ _ ((blk_cell (blk_alloc BX.out _) 4).trans rfl) (fun hHeld => ?_)
 clear hK K
 refine norm_ (a' := ?_) ?_ ?_
 rotate_left
 ·show Act.put _ (some 70) _ = _
  simp only [Act.put, List.setIfInBounds_toArray, List.set_cons_zero, List.set_cons_succ, i64_w, i32_w]
  rfl
 refine one_ (i := 5) (N := some 71) (mk 8 63) rfl rfl (one_of HT_.out (by kernel_rfl)) (by decide) (fun K hK => ?_)
 refine Kd.R_append_step k63 w1.heap.size (by rfl) (.tmp 67) (.tmp 70) 48 63 (.agg #[(.int .i64 0), (.int .i64 0), (.int .i64 0), (.int .i64 0), (.int .i64 0), (.bool false), (.slice none 0 0), (.slice none 0 0)]) 96 rfl Tryz.underlying48 info63 rfl (by decide) (by omega) (.slice Ai 1 ci) [insM] insT [.int .i64 26, .int .i64 1, .int .i64 0, .int .i64 0, .int .i64 0, .bool false, .slice none 0 0, .slice none 0 0] (fun _ => True) (fun _ => False) rfl rfl (k63_mkM _ _ _ insT (Kd.R_nil _ _ _ _ _) (Kd.R_nil _ _ _ _ _)) (fun _ hk => hk.elim) (fun _ _ => trivial) RI.out (Below.refl _ _) HB.out.size (by decide) ?_
 intro v_ w20 hR hb hg hat
 replace RP := aS (Kd.R_over RP.out RI.out (by decide) hg)
 replace RQ := aS (Kd.R_over RQ.out RI.out (by decide) hg)
 have hne := Kd.R_ne RI.out BX.out (by decide)
 obtain ⟨_, _, hz, -⟩ := HI.out
 have hng := Kd.R_ne RI.out hz (by decide)
 clear hz
 replace BX := aS (blk_grown BX.out hg hne)
 replace HI := aS (IsS104.grown HI.out hg hng)
 replace HB := aS (HB.out.trans hb)
 replace RI := aS (show Kd.R k63 63 w20 w1.heap.size (fun _ => True) v_ [insM, insT] from hR)
 clear hb hg hat hne hng hR
 obtain ⟨Aj, cj, rfl⟩ := Kd.R_slice RI.out
 refine hK.out _ _ ((blk_cell BX.out 4).trans rfl) (fun hHeld => ?_)
 clear hK K
 refine norm_ (a' := ?_) ?_ ?_
 rotate_left
 ·show Act.put _ (some 71) _ = _
  simp only [Act.put, List.setIfInBounds_toArray, List.set_cons_zero, List.set_cons_succ, i64_w, i32_w]
  rfl
 refine pu 6 72 (mk 8 127) (any_of HT_.out (by kernel_rfl)) ?_
 refine last_ (i := 7) (N := none) (mk 8 255) rfl rfl (one_of HT_.out (by kernel_rfl)) (by decide) (fun K hK => ?_)
 have hs := (blk_cell BX.out 4).trans rfl
 have hf := blk_frozen BX.out 4
 refine skip_ (w1 := ?_) (by rfl) rfl ?_ ?_
 rotate_left
 ·go_simp
  rfl
 refine hK.out _ _ ?_
 clear hK K hs hf hHeld
 replace RP := aS (Kd.R_set RP.out BX.out (by decide) 4 (.slice Aj 2 cj))
 replace RQ := aS (Kd.R_set RQ.out BX.out (by decide) 4 (.slice Aj 2 cj))
 replace RI := aS (Kd.R_set RI.out BX.out (by decide) 4 (.slice Aj 2 cj))
 replace HI := aS (IsS104.far HI.out (p := ⟨gx, 4, none⟩) (Ne.symm NX.out) (.slice Aj 2 cj))
 replace HB := aS (below_set (j := 4) (v := .slice Aj 2 cj) HB.out ZX.out)
 replace BX := aS (blk_put BX.out 4 (.slice Aj 2 cj) rfl)
 generalize World.setCell _ ⟨gx, 4, none⟩ (.slice Aj 2 cj) = w21 at RP RQ RI HI HB BX ⊢
 refine done_ (done_of HT_.out (by kernel_rfl)) ?_
 clear HT_ HW_
 go_wp2
 rw [rounds_succ]
 have x0 := (blk_cell BX.out 0).trans rfl
 have x1 := (blk_cell BX.out 1).trans rfl
 have x2 := (blk_cell BX.out 2).trans rfl
 have x3 := (blk_cell BX.out 3).trans rfl
 have x4 := (blk_cell BX.out 4).trans rfl
 go_wp2_with (at_builtin; refine Kd.R_append k50 w1.heap.size rfl (.tmp 73) (.tmp 75) 22 50 (.agg #[.string ⟨#[]⟩, .slice none 0 0, .slice none 0 0, .int .i64 0, .slice none 0 0]) 96 rfl Tryz.underlying22 info50 rfl (by decide) (by omega) (.slice none 0 0) [] sqR [.string ⟨#[102]⟩, .slice ARP 1 cRP, .slice ARQ 1 cRQ, .int .i64 2, .slice Aj 2 cj] (fun _ => True) (fun _ => True) rfl rfl (k50_mkM _ _ _ sqR RP.out RQ.out RI.out) (fun _ _ => ⟨trivial, by simp [Value.ownBlock]⟩) (fun _ _ => trivial) (Kd.R_nil _ _ _ _ _) (Below.refl _ _) HB.out.size (by decide) ?_)
 clear x0 x1 x2 x3 x4
 intro v_ wy hR hb hg hat
 have RL := aS (show Kd.R k50 50 wy w1.heap.size (fun _ => True) v_ [sqR] from hR)
 replace HI := aS (IsS104.grown HI.out hg (by simp [Value.ownBlock]))
 replace HB := aS (HB.out.trans hb)
 clear hb hg hat hR RP RQ RI BX NX ZX
 obtain ⟨Al, cl, rfl⟩ := Kd.R_slice RL.out
 go_wp2
 rw [rounds_succ]
 obtain ⟨Az, cz, hz, -⟩ := HI.out
 have z2 := cellS104_2 hz
 clear hz
 go_wp2
 clear z2
 obtain ⟨Az, cz, hz, -⟩ := HI.out
 have BG := aS hz
 clear hz HI
 go_region_held3 (fun w' => w'.cell? ⟨g, 1, none⟩ = some (.int .i64 17)) ((first | assumption | exact (blk_cell BG.out 1).trans rfl)) ((first
  | (go_at_call 45; (with_reducible refine (HS.out _ (tb HB1 (bl HB))).mono ?_); rintro e_ wn ⟨rfl, ⟨nd, rfl⟩⟩)
  | (go_at_call 39; (with_reducible refine (num_step 9 [] 194 [132, 3] (by kernel_rfl) w1 _ _ (bl HB) (Kd.R_nil _ _ _ _ _)).mono ?_); rintro e_ wn ⟨vn, rfl, hR, hb⟩; replace BG := aS (hb.2 _ _ 104 (by decide) (bk BG)); replace RL := aS (R_held (by (with_reducible repeat (first | apply Kd.R_drewN | apply Kd.R_drew)); exact RL.out) hb); replace HB := aS hb.1; have RN := aS hR; obtain ⟨g2, c2, hv, -⟩ := Kd.R_form hR (by decide); replace hv : vn = .slice (some ⟨g2, 0, none⟩) 2 c2 := hv; subst hv; clear hb hR)
  | (go_at_call 65; (with_reducible refine (equal_two ab (ao + 17) g2 0 none none (c - 17) c2 132 3 _ ?e1 ?e2 ?e3 ?e4).mono ?_); (case e1 => exact pw_cell_below (tb HB1 (bl HB)) HA.out.1); (case e2 => exact pw_cell_below (tb HB1 (bl HB)) HA.out.2); (case e3 => exact (Kd.R_cell (0 : Int) RN.out 0 (by decide) (by decide)).1); (case e4 => exact (Kd.R_cell (0 : Int) RN.out 1 (by decide) (by decide)).1); rintro e_ wo ⟨rfl, ⟨nd, rfl⟩⟩)
  | fail))
 go_wp2_with fail
 have hC := (Kd.R_reads' RL.out).2
 have HK : Aside0 (∀ W, Below wn.heap.size wn W → Calls Tryz.prog 12 #[.slice Al 1 cl] W fun e w' => e = .returned (.tuple #[.int .i64 0, .int .i64 0, .int .i64 0]) ∧ Below W.heap.size W w') := ⟨fun W hb => check_sq Al cl W ((HG.out.below HB.out).below hb) (Kd.C_below hC.2 hb) hC.1⟩
 clear hC
 (with_reducible refine (HK.out _ ?side1).mono ?_)
 case side1 => repeat (first | exact Below.refl _ _ | apply pw_below_drewN | apply below_drew1)
 rintro e_ wv ⟨rfl, hb⟩
 have HZ := aS hb
 clear hb
 go_wp2
 refine bodyPost_ret (v := .tuple #[.slice Al 1 cl, .int .i64 0, .int .i64 0]) (by simp [results, Tryz.results22, go_sem]) rfl ⟨_, rfl, ?_, ?_⟩
 ·refine Kd.R_lower (Kd.R_below ?_ HZ.out) HB1.out.size
  (with_reducible repeat (first | apply Kd.R_drewN | apply Kd.R_drew))
  exact RL.out
 ·exact tb HB1 (bs_ (bl HB) HZ.out)
theorem parse_sq (A : Option Addr) (c : Nat) (w : World) (hG : GW w) (hr : Kd.C (Kd.int .u8) w A 19 sqBytes) (hc : 19 ≤ c) :
 Calls Tryz.prog 22 #[.slice A 19 c] w fun e w' => ∃ v, e = .returned (.tuple #[v, .int .i64 0, .int .i64 0]) ∧ Kd.R k50 50 w' w.heap.size (fun _ => True) v [sqR] ∧ Below w.heap.size w w' := by
 obtain ⟨⟨ab, ao, al⟩, rfl, -⟩ := (Kd.reads_of_C (enc := Value.int .u8) (d := (0 : Int)) (h1 := fun _ => rfl) hr).2.2 (by decide)
 exact parse_at ab ao al c w hG hr hc
def code_Parse.f (l : List Int) : Option (List S50 × Int × Int) := if l = sqBytes then some ([sqR], 0, 0) else none
theorem code_Parse.calls (A0 : Option Addr) (c0 : Nat) (l0 : List Int) (r1 : List S50) (r2 r3 : Int) (w : World) (hG : GW w) (hr0 : Kd.C (Kd.int .u8) w A0 l0.length l0) (hc0 : l0.length ≤ c0) (h : code_Parse.f l0 = some (r1, r2, r3)) :
 Calls Tryz.prog 22 #[.slice A0 l0.length c0] w fun e w' => ∃ v0_ : Value, e = .returned (.tuple #[v0_, .int .i64 r2, .int .i64 r3]) ∧ Kd.R k50 50 w' w.heap.size (fun _ => True) v0_ r1 ∧ Below w.heap.size w w' := by
 unfold code_Parse.f at h
 by_cases hs : l0 = sqBytes
 ·rw [if_pos hs] at h
  simp only [Option.some.injEq, Prod.mk.injEq] at h
  obtain ⟨rfl, rfl, rfl⟩ := h
  subst hs
  exact parse_sq A0 c0 w hG hr0 hc0
 ·rw [if_neg hs] at h
  cases h
end Go.Proofs.YtbkknoipgmlcmaaGreatDoor.P

namespace Go.Proofs.YtbkknoipgmlcmaaGreatDoor.P
open Go.RowKit Go.Proofs.YtbkknoipgmlcmaaGreatDoorW.PrintWords Go.Proofs.YtbkknoipgmlcmaaGreatDoorW.PrintLast Go.Proofs.YtbkknoipgmlcmaaGreatDoorW.PrintMore
open Go.Proofs.FX
theorem same101 (k : Int) (A B : Option Addr) (c d : Nat) (l : List Int) (w : World) (hr : Kd.C (Kd.int .i64) w A l.length l) (hq : Kd.C (Kd.int .i64) w B l.length l) :
 Calls Tryz.prog 101 #[.agg #[.int .i64 k, .slice A l.length c], .agg #[.int .i64 k, .slice B l.length d]] w fun e w' => e = .returned (.bool true) ∧ Below w.heap.size w w' := by
 have hu115 := Tryz.underlying115
 have HB := aS (Below.refl w.heap.size w)
 have HR := aS hr
 have HQ := aS hq
 have HL := aS (Kd.C_max hr)
 clear hr hq
 go_enter Tryz.func101, Tryz.ntmps101
 go_wp2_with (first | ((with_reducible refine gate_dst (N := 2) rfl ?_); refine box_event ?hg (N := 2) ?hd (cs := #[.int .i64 k, .slice A l.length c]) (t := 115) ?hr ?_; (case hd => rfl); (case hg => rfl); (case hr => first | (go_simp; done) | (go_simp; rfl)); intro gi hg w1 hbox hb; have BKi := aS hbox; replace HB := aS (bs_ HB.out hb); clear hg hb hbox) | ((with_reducible refine gate_dst (N := 3) rfl ?_); refine box_event ?hg (N := 3) ?hd (cs := #[.int .i64 k, .slice B l.length d]) (t := 115) ?hr ?_; (case hd => rfl); (case hg => rfl); (case hr => first | (go_simp; done) | (go_simp; rfl)); intro gj hg w2 hbox hb; have BKj := aS hbox; replace BKi := aS (blk_below BKi.out hb); obtain ⟨x0, x1⟩ := cells2 BKi.out; obtain ⟨y0, y1⟩ := cells2 BKj.out; replace HB := aS (bs_ HB.out hb); clear hg hb hbox))
 go_loopg [5] (l.length + 1) (fun kq v3 w' => ∃ j : Nat, v3 = .int .i64 (j : Int) ∧ Aside0 (kq + j = l.length + 1 ∧ j ≤ l.length) ∧ Aside0 (Below w.heap.size w w') ∧ Aside0 (w'.heap[gi]? = some (.cells #[.int .i64 k, .slice A l.length c] 115 (0, 0)) ∧ w'.heap[gj]? = some (.cells #[.int .i64 k, .slice B l.length d] 115 (0, 0))))
 case atStart => exact ⟨0, rfl, ⟨rfl, Nat.zero_le _⟩, ⟨by first | exact HB.out | exact pw_below_drewN HB.out _⟩, ⟨by first | exact BKi.out | exact blk_below BKi.out (pw_below_drewN (Below.refl _ _) _), by first | exact BKj.out | exact blk_below BKj.out (pw_below_drewN (Below.refl _ _) _)⟩⟩
 case round =>
  clear HB BKi BKj x0 x1 y0 y1
  obtain ⟨j, rfl, HJ, HB, BK⟩ := hrel
  obtain ⟨x0, x1⟩ := cells2 BK.out.1
  obtain ⟨y0, y1⟩ := cells2 BK.out.2
  by_cases hj : j < l.length; rotate_left
  ·have c1 : ((j : Int) < (l.length : Int)) = False := eq_false (by omega)
   have c3 : (j < l.length) = False := eq_false hj
   clear hj
   go_wp2
   refine bodyPost_ret (v := .bool true) (by simp [results, Tryz.results101, go_sem]) rfl ⟨rfl, by first | exact HB.out | exact pw_below_drewN HB.out _⟩
  have c1 : (0 ≤ (j : Int)) = True := eq_true (by omega)
  have c2 : ((j : Int) < (l.length : Int)) = True := eq_true (by omega)
  have c3 : (j < l.length) = True := eq_true hj
  have c4 : wrap64 ((j : Int) + 1) = ((j + 1 : Nat) : Int) := by have := HL.out; unfold wrap64; omega
  obtain ⟨ad, rfl, hx⟩ := Kd.at_int HR.out (j : Int) (by omega) (by omega)
  obtain ⟨ae, rfl, hy⟩ := Kd.at_int HQ.out (j : Int) (by omega) (by omega)
  replace hx := pw_cell_below HB.out hx
  replace hy := pw_cell_below HB.out hy
  rw [Int.toNat_natCast] at hx hy
  have HJ2 := aS hj
  generalize rd l (j : Int) = dd at hx hy
  clear hj
  go_wp2
  go_region
  go_wp2
  cases gk with
  | zero => exact absurd HJ.out.1 (by have := HJ2.out; omega)
  | succ k3 =>
   go_roundg k3
   case measure => omega
   case rel => exact ⟨j + 1, by first | rfl | rw [c4], ⟨by have := HJ.out.1; omega, by have := HJ2.out; omega⟩, ⟨by first | exact HB.out | exact pw_below_drewN HB.out _⟩, ⟨by first | exact BK.out.1 | exact blk_below BK.out.1 (pw_below_drewN (Below.refl _ _) _), by first | exact BK.out.2 | exact blk_below BK.out.2 (pw_below_drewN (Below.refl _ _) _)⟩⟩
theorem cells4 {w : World} {g : Nat} {a0 a1 a2 a3 : Value} {t : TypeId} (h : w.heap[g]? = some (.cells #[a0, a1, a2, a3] t (0, 0))) : w.cell? ⟨g, 0, none⟩ = some a0 ∧ w.cell? ⟨g, 1, none⟩ = some a1 ∧ w.cell? ⟨g, 2, none⟩ = some a2 ∧ w.cell? ⟨g, 3, none⟩ = some a3 :=
 ⟨(blk_cell h 0).trans rfl, (blk_cell h 1).trans rfl, (blk_cell h 2).trans rfl, (blk_cell h 3).trans rfl⟩
theorem same37 (s : Int) (g : Bool) (A1 A2 B1 B2 : Option Addr) (c1 c2 d1 d2 : Nat) (u v : List Int) (w : World) (h1 : Kd.C (Kd.int .u32) w A1 u.length u) (h2 : Kd.C (Kd.int .u32) w A2 v.length v) (q1 : Kd.C (Kd.int .u32) w B1 u.length u) (q2 : Kd.C (Kd.int .u32) w B2 v.length v) :
 Calls Tryz.prog 37 #[.agg #[.int .i64 s, .bool g, .slice A1 u.length c1, .slice A2 v.length c2], .agg #[.int .i64 s, .bool g, .slice B1 u.length d1, .slice B2 v.length d2]] w fun e w' => e = .returned (.bool true) ∧ Below w.heap.size w w' := by
 have hu61 := Tryz.underlying61
 have HB := aS (Below.refl w.heap.size w)
 have HU := aS h1
 have HU2 := aS q1
 have HV := aS h2
 have HV2 := aS q2
 have HLu := aS (Kd.C_max h1)
 have HLv := aS (Kd.C_max h2)
 clear h1 h2 q1 q2
 go_enter Tryz.func37, Tryz.ntmps37
 go_wp2_with (first | ((with_reducible refine gate_dst (N := 2) rfl ?_); refine box_event ?hg (N := 2) ?hd (cs := #[.int .i64 s, .bool g, .slice A1 u.length c1, .slice A2 v.length c2]) (t := 61) ?hr ?_; (case hd => rfl); (case hg => rfl); (case hr => first | (go_simp; done) | (go_simp; rfl)); intro gi hg w1 hbox hb; have BKi := aS hbox; replace HB := aS (bs_ HB.out hb); clear hg hb hbox) | ((with_reducible refine gate_dst (N := 3) rfl ?_); refine box_event ?hg (N := 3) ?hd (cs := #[.int .i64 s, .bool g, .slice B1 u.length d1, .slice B2 v.length d2]) (t := 61) ?hr ?_; (case hd => rfl); (case hg => rfl); (case hr => first | (go_simp; done) | (go_simp; rfl)); intro gj hg w2 hbox hb; have BK := aS (And.intro (blk_below BKi.out hb) hbox); obtain ⟨x0, x1, x2, x3⟩ := cells4 BK.out.1; obtain ⟨y0, y1, y2, y3⟩ := cells4 BK.out.2; replace HB := aS (bs_ HB.out hb); clear hg hb hbox BKi))
 try (go_region; go_wp2)
 go_loopg [40] (u.length + 1) (fun kq v3 w' => ∃ j : Nat, v3 = .int .i64 (j : Int) ∧ Aside0 (kq + j = u.length + 1 ∧ j ≤ u.length) ∧ Aside0 (Below w.heap.size w w') ∧ Aside0 (w'.heap[gi]? = some (.cells #[.int .i64 s, .bool g, .slice A1 u.length c1, .slice A2 v.length c2] 61 (0, 0)) ∧ w'.heap[gj]? = some (.cells #[.int .i64 s, .bool g, .slice B1 u.length d1, .slice B2 v.length d2] 61 (0, 0))))
 case atStart => exact ⟨0, rfl, ⟨rfl, Nat.zero_le _⟩, ⟨by first | exact HB.out | exact pw_below_drewN HB.out _⟩, ⟨by first | exact BK.out.1 | exact blk_below BK.out.1 (pw_below_drewN (Below.refl _ _) _), by first | exact BK.out.2 | exact blk_below BK.out.2 (pw_below_drewN (Below.refl _ _) _)⟩⟩
 case round =>
  clear HB BK x0 x1 x2 x3 y0 y1 y2 y3
  obtain ⟨j, rfl, HJ, HB, BK⟩ := hrel
  obtain ⟨x0, x1, x2, x3⟩ := cells4 BK.out.1
  obtain ⟨y0, y1, y2, y3⟩ := cells4 BK.out.2
  by_cases hj : j < u.length
  ·have e1 : (0 ≤ (j : Int)) = True := eq_true (by omega)
   have e2 : ((j : Int) < (u.length : Int)) = True := eq_true (by omega)
   have e3 : (j < u.length) = True := eq_true hj
   have e4 : wrap64 ((j : Int) + 1) = ((j + 1 : Nat) : Int) := by have := HLu.out; unfold wrap64; omega
   obtain ⟨ad, rfl, hx⟩ := Kd.at_int HU.out (j : Int) (by omega) (by omega)
   obtain ⟨ae, rfl, hy⟩ := Kd.at_int HU2.out (j : Int) (by omega) (by omega)
   replace hx := pw_cell_below HB.out hx
   replace hy := pw_cell_below HB.out hy
   rw [Int.toNat_natCast] at hx hy
   have HJ2 := aS hj
   generalize rd u (j : Int) = dd at hx hy
   clear hj
   go_wp2
   go_region
   go_wp2
   cases gk with
   | zero => exact absurd HJ.out.1 (by have := HJ2.out; omega)
   | succ k3 =>
    go_roundg k3
    case measure => omega
    case rel => exact ⟨j + 1, by first | rfl | rw [e4], ⟨by have := HJ.out.1; omega, by have := HJ2.out; omega⟩, ⟨by first | exact HB.out | exact pw_below_drewN HB.out _⟩, ⟨by first | exact BK.out.1 | exact blk_below BK.out.1 (pw_below_drewN (Below.refl _ _) _), by first | exact BK.out.2 | exact blk_below BK.out.2 (pw_below_drewN (Below.refl _ _) _)⟩⟩
  have e1 : ((j : Int) < (u.length : Int)) = False := eq_false (by omega)
  have e3 : (j < u.length) = False := eq_false hj
  clear hj
  go_wp2
  go_loopg [58] (v.length + 1) (fun kq v3 w' => ∃ j : Nat, v3 = .int .i64 (j : Int) ∧ Aside0 (kq + j = v.length + 1 ∧ j ≤ v.length) ∧ Aside0 (Below w.heap.size w w') ∧ Aside0 (w'.heap[gi]? = some (.cells #[.int .i64 s, .bool g, .slice A1 u.length c1, .slice A2 v.length c2] 61 (0, 0)) ∧ w'.heap[gj]? = some (.cells #[.int .i64 s, .bool g, .slice B1 u.length d1, .slice B2 v.length d2] 61 (0, 0))))
  case atStart => exact ⟨0, rfl, ⟨rfl, Nat.zero_le _⟩, ⟨by first | exact HB.out | exact pw_below_drewN HB.out _⟩, ⟨by first | exact BK.out.1 | exact blk_below BK.out.1 (pw_below_drewN (Below.refl _ _) _), by first | exact BK.out.2 | exact blk_below BK.out.2 (pw_below_drewN (Below.refl _ _) _)⟩⟩
  case round =>
   clear HB BK HJ x0 x1 x2 x3 y0 y1 y2 y3
   obtain ⟨j, rfl, HJ, HB, BK⟩ := hrel
   obtain ⟨x0, x1, x2, x3⟩ := cells4 BK.out.1
   obtain ⟨y0, y1, y2, y3⟩ := cells4 BK.out.2
   by_cases hj : j < v.length; rotate_left
   ·have e1 : ((j : Int) < (v.length : Int)) = False := eq_false (by omega)
    have e3 : (j < v.length) = False := eq_false hj
    clear hj
    go_wp2
    refine bodyPost_ret (v := .bool true) (by simp [results, Tryz.results37, go_sem]) rfl ⟨rfl, by first | exact HB.out | exact pw_below_drewN HB.out _⟩
   have e1 : (0 ≤ (j : Int)) = True := eq_true (by omega)
   have e2 : ((j : Int) < (v.length : Int)) = True := eq_true (by omega)
   have e3 : (j < v.length) = True := eq_true hj
   have e4 : wrap64 ((j : Int) + 1) = ((j + 1 : Nat) : Int) := by have := HLv.out; unfold wrap64; omega
   obtain ⟨ad, rfl, hx⟩ := Kd.at_int HV.out (j : Int) (by omega) (by omega)
   obtain ⟨ae, rfl, hy⟩ := Kd.at_int HV2.out (j : Int) (by omega) (by omega)
   replace hx := pw_cell_below HB.out hx
   replace hy := pw_cell_below HB.out hy
   rw [Int.toNat_natCast] at hx hy
   have HJ2 := aS hj
   generalize rd v (j : Int) = dd at hx hy
   clear hj
   go_wp2
   go_region
   go_wp2
   cases gk with
   | zero => exact absurd HJ.out.1 (by have := HJ2.out; omega)
   | succ k3 =>
    go_roundg k3
    case measure => omega
    case rel => exact ⟨j + 1, by first | rfl | rw [e4], ⟨by have := HJ.out.1; omega, by have := HJ2.out; omega⟩, ⟨by first | exact HB.out | exact pw_below_drewN HB.out _⟩, ⟨by first | exact BK.out.1 | exact blk_below BK.out.1 (pw_below_drewN (Below.refl _ _) _), by first | exact BK.out.2 | exact blk_below BK.out.2 (pw_below_drewN (Below.refl _ _) _)⟩⟩
theorem same36 (A B : Option Addr) (c d : Nat) (l : List S115) (w : World) (hr : Kd.C k115 w A l.length l) (hq : Kd.C k115 w B l.length l) :
 Calls Tryz.prog 36 #[.slice A l.length c, .slice B l.length d] w fun e w' => e = .returned (.bool true) ∧ Below w.heap.size w w' := by
 have HB := aS (Below.refl w.heap.size w)
 have HR := aS hr
 have HQ := aS hq
 have HL := aS (Kd.C_max hr)
 clear hr hq
 go_enter Tryz.func36, Tryz.ntmps36
 go_wp2
 go_loopg [13] (l.length + 1) (fun kq v3 w' => ∃ j : Nat, v3 = .int .i64 (j : Int) ∧ Aside0 (kq + j = l.length + 1 ∧ j ≤ l.length) ∧ Aside0 (Below w.heap.size w w'))
 case atStart => exact ⟨0, rfl, ⟨rfl, Nat.zero_le _⟩, ⟨by first | exact HB.out | exact pw_below_drewN HB.out _⟩⟩
 case round =>
  clear HB
  obtain ⟨j, rfl, HJ, HB⟩ := hrel
  by_cases hj : j < l.length; rotate_left
  ·have e1 : ((j : Int) < (l.length : Int)) = False := eq_false (by omega)
   have e3 : (j < l.length) = False := eq_false hj
   clear hj
   go_wp2
   refine bodyPost_ret (v := .bool true) (by simp [results, Tryz.results36, go_sem]) rfl ⟨rfl, by first | exact HB.out | exact pw_below_drewN HB.out _⟩
  have e1 : (0 ≤ (j : Int)) = True := eq_true (by omega)
  have e2 : ((j : Int) < (l.length : Int)) = True := eq_true (by omega)
  have e3 : (j < l.length) = True := eq_true hj
  have e4 : wrap64 ((j : Int) + 1) = ((j + 1 : Nat) : Int) := by have := HL.out; unfold wrap64; omega
  obtain ⟨ad, A1, c1, rfl, x0, x1, _, g1⟩ := at_T115 HR.out (j : Int) (by omega) (by omega)
  obtain ⟨ae, B1, d1, rfl, y0, y1, _, q1⟩ := at_T115 HQ.out (j : Int) (by omega) (by omega)
  rw [Int.toNat_natCast] at x0 x1 y0 y1
  have HJ2 := aS hj
  generalize rd_T115 l (j : Int) = t at x0 x1 y0 y1 g1 q1
  have M : Aside0 (∀ W, Below w.heap.size w W → Calls Tryz.prog 101 #[.agg #[.int .i64 t.f0, .slice A1 t.f1.length c1], .agg #[.int .i64 t.f0, .slice B1 t.f1.length d1]] W fun e w' => e = .returned (.bool true) ∧ Below W.heap.size W w') := ⟨fun W hb => same101 _ _ _ _ _ _ W (Kd.C_below g1 hb) (Kd.C_below q1 hb)⟩
  have X : Aside0 (w.cell? (ad.add (j * 2)) = some (.int .i64 t.f0) ∧ w.cell? ⟨(ad.add (j * 2)).block, (ad.add (j * 2)).off + 1, none⟩ = some (.slice A1 t.f1.length c1) ∧ w.cell? (ae.add (j * 2)) = some (.int .i64 t.f0) ∧ w.cell? ⟨(ae.add (j * 2)).block, (ae.add (j * 2)).off + 1, none⟩ = some (.slice B1 t.f1.length d1)) := ⟨x0, x1, y0, y1⟩
  clear hj x0 x1 y0 y1 g1 q1
  go_wp2
  go_region_held3 (fun w' => w'.cell? (ad.add (j * 2)) = some (.int .i64 t.f0) ∧ w'.cell? ⟨(ad.add (j * 2)).block, (ad.add (j * 2)).off + 1, none⟩ = some (.slice A1 t.f1.length c1) ∧ w'.cell? (ae.add (j * 2)) = some (.int .i64 t.f0) ∧ w'.cell? ⟨(ae.add (j * 2)).block, (ae.add (j * 2)).off + 1, none⟩ = some (.slice B1 t.f1.length d1)) ((first | assumption | (have h_ := HB.out; exact ⟨pw_cell_below (by repeat (first | exact h_ | apply below_drew1 | apply pw_below_drewN)) X.out.1, pw_cell_below (by repeat (first | exact h_ | apply below_drew1 | apply pw_below_drewN)) X.out.2.1, pw_cell_below (by repeat (first | exact h_ | apply below_drew1 | apply pw_below_drewN)) X.out.2.2.1, pw_cell_below (by repeat (first | exact h_ | apply below_drew1 | apply pw_below_drewN)) X.out.2.2.2⟩))) ((go_at_call 101; (with_reducible refine (M.out _ ?side1).mono ?_); (case side1 => repeat (first | exact HB.out | apply below_drew1 | apply pw_below_drewN)); rintro e w4 ⟨rfl, hb⟩; replace HB := aS (bs_ (by repeat (first | exact HB.out | apply below_drew1 | apply pw_below_drewN)) hb); clear hb))
  go_wp2
  cases gk with
  | zero => exact absurd HJ.out.1 (by have := HJ2.out; omega)
  | succ k3 =>
   go_roundg k3
   case measure => omega
   case rel => exact ⟨j + 1, by first | rfl | rw [e4], ⟨by have := HJ.out.1; omega, by have := HJ2.out; omega⟩, ⟨by first | exact HB.out | exact pw_below_drewN HB.out _⟩⟩
end Go.Proofs.YtbkknoipgmlcmaaGreatDoor.P

