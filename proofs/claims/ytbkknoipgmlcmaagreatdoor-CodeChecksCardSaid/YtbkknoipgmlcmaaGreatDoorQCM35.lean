import Derived.Test.YtbkknoipgmlcmaaGreatDoorQCM34
import Derived.Test.YtbkknoipgmlcmaaGreatDoorQCM25
import Derived.Test.YtbkknoipgmlcmaaGreatDoorQCM11
set_option linter.unusedVariables false
set_option linter.unusedSimpArgs false
set_option maxHeartbeats 8000000
set_option maxRecDepth 100000
namespace Go.Proofs.YtbkknoipgmlcmaaGreatDoor.P
open Go.RowKit Go.Proofs.YtbkknoipgmlcmaaGreatDoorW.PrintWords Go.Proofs.YtbkknoipgmlcmaaGreatDoorW.PrintLast Go.Proofs.YtbkknoipgmlcmaaGreatDoorW.PrintMore
open Go.Proofs.FX
attribute [local go_sem] Instr.index cell_twice le_add_cast
theorem insM_at (g : Nat) (w0 w : World) (hG : GW w0) (hI : IsS104 w0 w g sqBytes 11 (-1)) (hB : Below w0.heap.size w0 w) :
 Calls Tryz.prog 64 #[.pointer (some ⟨g, 0, none⟩)] w fun e w' => e = .returned (.agg #[.int .i64 8, .int .i64 1, .int .i64 0, .int .i64 0, .int .i64 0, .bool false, .slice none 0 0, .slice none 0 0]) ∧ IsS104 w0 w' g sqBytes 15 (-1) ∧ Below w0.heap.size w0 w' ∧ KeepBut w w' g none := by
 have hu63 := Tryz.underlying63
 have hu72 := Tryz.underlying72
 have hu75 := Tryz.underlying75
 have hu78 := Tryz.underlying78
 have hu61 := Tryz.underlying61
 have HG := aS hG
 have HI := aS (IsS104.alloc hI (.cells #[.int .i64 0, .int .i64 0, .int .i64 0, .int .i64 0, .int .i64 0, .bool false, .slice none 0 0, .slice none 0 0] 63))
 have HB := aS (below_alloc hB (.cells #[.int .i64 0, .int .i64 0, .int .i64 0, .int .i64 0, .int .i64 0, .bool false, .slice none 0 0, .slice none 0 0] 63))
 have HK := aS (keep_alloc (KeepBut.refl w g none) (.cells #[.int .i64 0, .int .i64 0, .int .i64 0, .int .i64 0, .int .i64 0, .bool false, .slice none 0 0, .slice none 0 0] 63))
 have BR := aS (blk_new w (.cells #[.int .i64 0, .int .i64 0, .int .i64 0, .int .i64 0, .int .i64 0, .bool false, .slice none 0 0, .slice none 0 0] 63))
 have NR := aS (Nat.ne_of_gt hI.lt)
 have ZR := aS (Nat.le_refl w.heap.size)
 have ZB := aS hB.size
 clear hI hB hG
 go_enter Tryz.func64, Tryz.ntmps64
 go_wp2_with fail
 generalize w.alloc (.cells #[.int .i64 0, .int .i64 0, .int .i64 0, .int .i64 0, .int .i64 0, .bool false, .slice none 0 0, .slice none 0 0] 63) = w1 at HI HB HK BR ⊢
 generalize hgr : w.heap.size = gr at BR NR ZR ⊢
 have ZW : Aside0 (w0.heap.size ≤ gr) := ⟨by have := ZB.out; omega⟩
 replace ZR : Aside0 (w.heap.size ≤ gr) := ⟨by omega⟩
 clear hgr ZB
 (with_reducible refine (within_at 11 11 12 16 8 rfl rfl (by decide) rfl (by decide) (by decide) (by decide) g _ _ HI.out HB.out).mono ?_)
 rintro e w2 ⟨rfl, hi, hb, hk⟩
 replace HI := aS hi
 replace HB := aS hb
 replace HK := aS (KeepBut.trans HK.out hk (.inl rfl))
 replace BR := aS (KeepBut.blk hk BR.out NR.out (by simp))
 clear hb hk
 obtain ⟨A, c, hg, -⟩ := hi
 have z2 : ∀ o, (w2.alloc o).cell? ⟨g, 2, none⟩ = some (.int .i64 (-1)) := fun o => (blk_cell (blk_alloc hg o) 2).trans rfl
 clear hg A c
 go_wp2_with fail
 clear z2
 have BI := aS (blk_new w2 (.cells #[.int .i64 8, .int .i64 0, .int .i64 0, .int .i64 0, .int .i64 0, .bool false, .slice none 0 0, .slice none 0 0] 63))
 have NI := aS (Nat.ne_of_gt HI.out.lt)
 have RI := aS (Nat.ne_of_gt (blk_lt BR.out))
 have ZI := aS HK.out.1
 have ZG := aS HB.out.size
 replace HI := aS (HI.out.alloc (.cells #[.int .i64 8, .int .i64 0, .int .i64 0, .int .i64 0, .int .i64 0, .bool false, .slice none 0 0, .slice none 0 0] 63))
 replace HB := aS (below_alloc HB.out (.cells #[.int .i64 8, .int .i64 0, .int .i64 0, .int .i64 0, .int .i64 0, .bool false, .slice none 0 0, .slice none 0 0] 63))
 replace HK := aS (keep_alloc HK.out (.cells #[.int .i64 8, .int .i64 0, .int .i64 0, .int .i64 0, .int .i64 0, .bool false, .slice none 0 0, .slice none 0 0] 63))
 replace BR := aS (blk_alloc BR.out (.cells #[.int .i64 8, .int .i64 0, .int .i64 0, .int .i64 0, .int .i64 0, .bool false, .slice none 0 0, .slice none 0 0] 63))
 generalize w2.alloc (.cells #[.int .i64 8, .int .i64 0, .int .i64 0, .int .i64 0, .int .i64 0, .bool false, .slice none 0 0, .slice none 0 0] 63) = w3 at HI HB HK BR BI ⊢
 generalize w2.heap.size = gi at BI NI RI ZI ZG ⊢
 have hof : code_of.f 8 = some (⟨#[109, 117, 108]⟩, 1, 1, 1, false, 0, 0, true) := by kernel_rfl
 (with_reducible refine (code_of.calls 8 _ _ _ _ _ _ _ _ _ (HG.out.below HB.out) hof).mono ?_)
 rintro e w4 ⟨rfl, hb⟩
 clear hof
 replace HI := aS (HI.out.below hb)
 replace HB := aS (bs_ HB.out hb)
 replace HK := aS (KeepBut.trans HK.out (KeepBut.of_below hb g none) (.inl rfl))
 replace BR := aS (blk_below BR.out hb)
 replace BI := aS (blk_below BI.out hb)
 clear hb
 go_wp2_with fail
 have BS := aS (blk_new w4 (.cells #[.string ⟨#[109, 117, 108]⟩, .int .i64 1, .int .i64 1, .int .i64 1, .bool false, .int .i64 0, .int .i64 0] 72))
 have NS := aS (Nat.ne_of_gt HI.out.lt)
 replace HI := aS (HI.out.alloc (.cells #[.string ⟨#[109, 117, 108]⟩, .int .i64 1, .int .i64 1, .int .i64 1, .bool false, .int .i64 0, .int .i64 0] 72))
 replace HB := aS (below_alloc HB.out (.cells #[.string ⟨#[109, 117, 108]⟩, .int .i64 1, .int .i64 1, .int .i64 1, .bool false, .int .i64 0, .int .i64 0] 72))
 replace HK := aS (keep_alloc HK.out (.cells #[.string ⟨#[109, 117, 108]⟩, .int .i64 1, .int .i64 1, .int .i64 1, .bool false, .int .i64 0, .int .i64 0] 72))
 replace BR := aS (blk_alloc BR.out (.cells #[.string ⟨#[109, 117, 108]⟩, .int .i64 1, .int .i64 1, .int .i64 1, .bool false, .int .i64 0, .int .i64 0] 72))
 have SI := aS (Nat.ne_of_gt (blk_lt BI.out))
 replace BI := aS (blk_alloc BI.out (.cells #[.string ⟨#[109, 117, 108]⟩, .int .i64 1, .int .i64 1, .int .i64 1, .bool false, .int .i64 0, .int .i64 0] 72))
 generalize w4.alloc (.cells #[.string ⟨#[109, 117, 108]⟩, .int .i64 1, .int .i64 1, .int .i64 1, .bool false, .int .i64 0, .int .i64 0] 72) = w5 at HI HB HK BR BI BS ⊢
 generalize w4.heap.size = gs at BS SI NS ⊢
 (with_reducible refine (uses_calls _ _ _ _ _ _ _ _).mono ?_)
 rintro e w6 ⟨rfl, hb⟩
 replace HI := aS (HI.out.below hb)
 replace HB := aS (bs_ HB.out hb)
 replace HK := aS (KeepBut.trans HK.out (KeepBut.of_below hb g none) (.inl rfl))
 replace BR := aS (blk_below BR.out hb)
 replace BI := aS (blk_below BI.out hb)
 replace BS := aS (blk_below BS.out hb)
 clear hb
 go_wp2
 refine wp_loop_rounds 4 ?_
 rw [rounds_succ]
 go_wp2
 replace HI := aS HI.out.drew
 replace HB := aS (below_drew1 HB.out)
 replace HK := aS (keep_drew HK.out)
 replace BR := aS (blk_drew BR.out)
 replace BI := aS (blk_drew BI.out)
 replace BS := aS (blk_drew BS.out)
 refine start_ (n := 7) (S := fun w' => True) (ds := []) (mk 7 0) (by kernel_rfl) rfl (by kernel_rfl) trivial (fun hHeld => ?_)
 generalize w6.drew = w7 at HI HB HK BR BI BS ⊢
 refine pu 1 32 (mk 7 2) (by kernel_rfl) ?_
 refine pu 3 34 (mk 7 10) (by kernel_rfl) ?_
 refine one_ (i := 0) (N := some 31) (mk 7 11) rfl rfl (by kernel_rfl) (by decide) (fun K hK => ?_)
 refine goes_ Tryz.func43 (by kernel_rfl) rfl #[.pointer (some ⟨gi, 0, none⟩)] (by rfl) rfl rfl (by (try simp only [List.map_toArray, List.map_cons, List.map_nil]); first | done | rfl) ?_
 with_reducible refine (fields_calls gi _).mono ?_
 rintro e w8 ⟨rfl, hb⟩
 refine ⟨_, rfl, ?_⟩
 replace HI := aS (HI.out.below hb)
 replace HB := aS (bs_ HB.out hb)
 replace HK := aS (KeepBut.trans HK.out (KeepBut.of_below hb g none) (.inl rfl))
 replace BR := aS (blk_below BR.out hb)
 replace BI := aS (blk_below BI.out hb)
 replace BS := aS (blk_below BS.out hb)
 clear hb
 refine hK.out _ _ trivial (fun hHeld => ?_)
 clear hK K
 refine norm_ (a' := ?_) ?_ ?_
 rotate_left
 ·show Act.put _ (some 31) _ = _
  simp only [Act.put, List.setIfInBounds_toArray, List.set_cons_zero, List.set_cons_succ, i64_w, i32_w]
  rfl
 refine tk 2 33 (mk 7 15) (by kernel_rfl) hHeld ?_
 refine one_ (i := 4) (N := some 35) (mk 7 31) rfl rfl (by kernel_rfl) (by decide) (fun K hK => ?_)
 refine goes_ Tryz.func63 (by kernel_rfl) rfl #[.pointer (some ⟨g, 0, none⟩)] (by rfl) rfl rfl (by (try simp only [List.map_toArray, List.map_cons, List.map_nil]); first | done | rfl) ?_
 with_reducible refine (whole_c 12 12 13 2 1 rfl rfl (by decide) rfl (by decide) g _ _ HI.out HB.out).mono ?_
 rintro e w9 ⟨rfl, hi, hb, hk⟩
 refine ⟨_, rfl, ?_⟩
 replace HI := aS hi
 replace HB := aS hb
 replace HK := aS (KeepBut.trans HK.out hk (.inl rfl))
 replace BR := aS (KeepBut.blk hk BR.out NR.out (by simp))
 replace BI := aS (KeepBut.blk hk BI.out NI.out (by simp))
 replace BS := aS (KeepBut.blk hk BS.out NS.out (by simp))
 clear hb hk hi
 refine hK.out _ _ trivial (fun hHeld => ?_)
 clear hK K
 refine norm_ (a' := ?_) ?_ ?_
 rotate_left
 ·show Act.put _ (some 35) _ = _
  simp only [Act.put, List.setIfInBounds_toArray, List.set_cons_zero, List.set_cons_succ, i64_w, i32_w]
  rfl
 refine pu 5 36 (mk 7 63) (by kernel_rfl) ?_
 refine one_ (i := 6) (N := none) (mk 7 127) rfl rfl (by kernel_rfl) (by decide) (fun K hK => ?_)
 have hs := (blk_cell BI.out 1).trans rfl
 have hf := blk_frozen BI.out 1
 refine skip_ (w1 := ?_) (by rfl) rfl ?_ ?_
 rotate_left
 ·go_simp
  rfl
 refine hK.out _ _ trivial (fun hHeld => ?_)
 clear hK K hs hf hHeld
 replace HI := aS (IsS104.far HI.out (p := ⟨gi, 1, none⟩) (Ne.symm NI.out) (.int .i64 1))
 replace HB := aS (below_set (j := 1) (v := .int .i64 1) HB.out ZG.out)
 replace HK := aS (keep_far HK.out (p := ⟨gi, 1, none⟩) ZI.out (.int .i64 1))
 replace BR := aS (blk_far (p := ⟨gi, 1, none⟩) BR.out (Ne.symm RI.out) (.int .i64 1))
 replace BS := aS (blk_far (p := ⟨gi, 1, none⟩) BS.out SI.out (.int .i64 1))
 replace BI := aS (blk_put BI.out 1 (.int .i64 1) rfl)
 generalize w9.setCell ⟨gi, 1, none⟩ (.int .i64 1) = w10 at HI HB HK BR BI BS ⊢
 refine done_ (by kernel_rfl) ?_
 go_wp2
 rw [rounds_succ]
 go_wp2
 replace HI := aS HI.out.drew
 replace HB := aS (below_drew1 HB.out)
 replace HK := aS (keep_drew HK.out)
 replace BR := aS (blk_drew BR.out)
 replace BI := aS (blk_drew BI.out)
 replace BS := aS (blk_drew BS.out)
 refine start_ (n := 7) (S := fun w' => True) (ds := []) (mk 7 0) (by kernel_rfl) rfl (by kernel_rfl) trivial (fun hHeld => ?_)
 generalize w10.drew = w11 at HI HB HK BR BI BS ⊢
 refine pu 1 32 (mk 7 2) (by kernel_rfl) ?_
 refine pu 3 34 (mk 7 10) (by kernel_rfl) ?_
 refine one_ (i := 0) (N := some 31) (mk 7 11) rfl rfl (by kernel_rfl) (by decide) (fun K hK => ?_)
 refine goes_ Tryz.func43 (by kernel_rfl) rfl #[.pointer (some ⟨gi, 0, none⟩)] (by rfl) rfl rfl (by (try simp only [List.map_toArray, List.map_cons, List.map_nil]); first | done | rfl) ?_
 with_reducible refine (fields_calls gi _).mono ?_
 rintro e w12 ⟨rfl, hb⟩
 refine ⟨_, rfl, ?_⟩
 replace HI := aS (HI.out.below hb)
 replace HB := aS (bs_ HB.out hb)
 replace HK := aS (KeepBut.trans HK.out (KeepBut.of_below hb g none) (.inl rfl))
 replace BR := aS (blk_below BR.out hb)
 replace BI := aS (blk_below BI.out hb)
 replace BS := aS (blk_below BS.out hb)
 clear hb
 refine hK.out _ _ trivial (fun hHeld => ?_)
 clear hK K
 refine norm_ (a' := ?_) ?_ ?_
 rotate_left
 ·show Act.put _ (some 31) _ = _
  simp only [Act.put, List.setIfInBounds_toArray, List.set_cons_zero, List.set_cons_succ, i64_w, i32_w]
  rfl
 refine tk 2 33 (mk 7 15) (by kernel_rfl) hHeld ?_
 refine one_ (i := 4) (N := some 35) (mk 7 31) rfl rfl (by kernel_rfl) (by decide) (fun K hK => ?_)
 refine goes_ Tryz.func63 (by kernel_rfl) rfl #[.pointer (some ⟨g, 0, none⟩)] (by rfl) rfl rfl (by (try simp only [List.map_toArray, List.map_cons, List.map_nil]); first | done | rfl) ?_
 with_reducible refine (whole_c 13 13 14 0 0 rfl rfl (by decide) rfl (by decide) g _ _ HI.out HB.out).mono ?_
 rintro e w13 ⟨rfl, hi, hb, hk⟩
 refine ⟨_, rfl, ?_⟩
 replace HI := aS hi
 replace HB := aS hb
 replace HK := aS (KeepBut.trans HK.out hk (.inl rfl))
 replace BR := aS (KeepBut.blk hk BR.out NR.out (by simp))
 replace BI := aS (KeepBut.blk hk BI.out NI.out (by simp))
 replace BS := aS (KeepBut.blk hk BS.out NS.out (by simp))
 clear hb hk hi
 refine hK.out _ _ trivial (fun hHeld => ?_)
 clear hK K
 refine norm_ (a' := ?_) ?_ ?_
 rotate_left
 ·show Act.put _ (some 35) _ = _
  simp only [Act.put, List.setIfInBounds_toArray, List.set_cons_zero, List.set_cons_succ, i64_w, i32_w]
  rfl
 refine pu 5 36 (mk 7 63) (by kernel_rfl) ?_
 refine one_ (i := 6) (N := none) (mk 7 127) rfl rfl (by kernel_rfl) (by decide) (fun K hK => ?_)
 have hs := (blk_cell BI.out 2).trans rfl
 have hf := blk_frozen BI.out 2
 refine skip_ (w1 := ?_) (by rfl) rfl ?_ ?_
 rotate_left
 ·go_simp
  rfl
 refine hK.out _ _ trivial (fun hHeld => ?_)
 clear hK K hs hf hHeld
 replace HI := aS (IsS104.far HI.out (p := ⟨gi, 2, none⟩) (Ne.symm NI.out) (.int .i64 0))
 replace HB := aS (below_set (j := 2) (v := .int .i64 0) HB.out ZG.out)
 replace HK := aS (keep_far HK.out (p := ⟨gi, 2, none⟩) ZI.out (.int .i64 0))
 replace BR := aS (blk_far (p := ⟨gi, 2, none⟩) BR.out (Ne.symm RI.out) (.int .i64 0))
 replace BS := aS (blk_far (p := ⟨gi, 2, none⟩) BS.out SI.out (.int .i64 0))
 replace BI := aS (blk_put BI.out 2 (.int .i64 0) rfl)
 generalize w13.setCell ⟨gi, 2, none⟩ (.int .i64 0) = w14 at HI HB HK BR BI BS ⊢
 refine done_ (by kernel_rfl) ?_
 go_wp2
 rw [rounds_succ]
 go_wp2
 replace HI := aS HI.out.drew
 replace HB := aS (below_drew1 HB.out)
 replace HK := aS (keep_drew HK.out)
 replace BR := aS (blk_drew BR.out)
 replace BI := aS (blk_drew BI.out)
 replace BS := aS (blk_drew BS.out)
 refine start_ (n := 7) (S := fun w' => True) (ds := []) (mk 7 0) (by kernel_rfl) rfl (by kernel_rfl) trivial (fun hHeld => ?_)
 generalize w14.drew = w15 at HI HB HK BR BI BS ⊢
 refine pu 1 32 (mk 7 2) (by kernel_rfl) ?_
 refine pu 3 34 (mk 7 10) (by kernel_rfl) ?_
 refine one_ (i := 0) (N := some 31) (mk 7 11) rfl rfl (by kernel_rfl) (by decide) (fun K hK => ?_)
 refine goes_ Tryz.func43 (by kernel_rfl) rfl #[.pointer (some ⟨gi, 0, none⟩)] (by rfl) rfl rfl (by (try simp only [List.map_toArray, List.map_cons, List.map_nil]); first | done | rfl) ?_
 with_reducible refine (fields_calls gi _).mono ?_
 rintro e w16 ⟨rfl, hb⟩
 refine ⟨_, rfl, ?_⟩
 replace HI := aS (HI.out.below hb)
 replace HB := aS (bs_ HB.out hb)
 replace HK := aS (KeepBut.trans HK.out (KeepBut.of_below hb g none) (.inl rfl))
 replace BR := aS (blk_below BR.out hb)
 replace BI := aS (blk_below BI.out hb)
 replace BS := aS (blk_below BS.out hb)
 clear hb
 refine hK.out _ _ trivial (fun hHeld => ?_)
 clear hK K
 refine norm_ (a' := ?_) ?_ ?_
 rotate_left
 ·show Act.put _ (some 31) _ = _
  simp only [Act.put, List.setIfInBounds_toArray, List.set_cons_zero, List.set_cons_succ, i64_w, i32_w]
  rfl
 refine tk 2 33 (mk 7 15) (by kernel_rfl) hHeld ?_
 refine one_ (i := 4) (N := some 35) (mk 7 31) rfl rfl (by kernel_rfl) (by decide) (fun K hK => ?_)
 refine goes_ Tryz.func63 (by kernel_rfl) rfl #[.pointer (some ⟨g, 0, none⟩)] (by rfl) rfl rfl (by (try simp only [List.map_toArray, List.map_cons, List.map_nil]); first | done | rfl) ?_
 with_reducible refine (whole_c 14 14 15 0 0 rfl rfl (by decide) rfl (by decide) g _ _ HI.out HB.out).mono ?_
 rintro e w17 ⟨rfl, hi, hb, hk⟩
 refine ⟨_, rfl, ?_⟩
 replace HI := aS hi
 replace HB := aS hb
 replace HK := aS (KeepBut.trans HK.out hk (.inl rfl))
 replace BR := aS (KeepBut.blk hk BR.out NR.out (by simp))
 replace BI := aS (KeepBut.blk hk BI.out NI.out (by simp))
 replace BS := aS (KeepBut.blk hk BS.out NS.out (by simp))
 clear hb hk hi
 refine hK.out _ _ trivial (fun hHeld => ?_)
 clear hK K
 refine norm_ (a' := ?_) ?_ ?_
 rotate_left
 ·show Act.put _ (some 35) _ = _
  simp only [Act.put, List.setIfInBounds_toArray, List.set_cons_zero, List.set_cons_succ, i64_w, i32_w]
  rfl
 refine pu 5 36 (mk 7 63) (by kernel_rfl) ?_
 refine one_ (i := 6) (N := none) (mk 7 127) rfl rfl (by kernel_rfl) (by decide) (fun K hK => ?_)
 have hs := (blk_cell BI.out 3).trans rfl
 have hf := blk_frozen BI.out 3
 refine skip_ (w1 := ?_) (by rfl) rfl ?_ ?_
 rotate_left
 ·go_simp
  rfl
 refine hK.out _ _ trivial (fun hHeld => ?_)
 clear hK K hs hf hHeld
 replace HI := aS (IsS104.far HI.out (p := ⟨gi, 3, none⟩) (Ne.symm NI.out) (.int .i64 0))
 replace HB := aS (below_set (j := 3) (v := .int .i64 0) HB.out ZG.out)
 replace HK := aS (keep_far HK.out (p := ⟨gi, 3, none⟩) ZI.out (.int .i64 0))
 replace BR := aS (blk_far (p := ⟨gi, 3, none⟩) BR.out (Ne.symm RI.out) (.int .i64 0))
 replace BS := aS (blk_far (p := ⟨gi, 3, none⟩) BS.out SI.out (.int .i64 0))
 replace BI := aS (blk_put BI.out 3 (.int .i64 0) rfl)
 generalize w17.setCell ⟨gi, 3, none⟩ (.int .i64 0) = w18 at HI HB HK BR BI BS ⊢
 refine done_ (by kernel_rfl) ?_
 go_wp2
 rw [rounds_succ]
 have s4 := (blk_cell BS.out 4).trans rfl
 have i0 := (blk_cell BI.out 0).trans rfl
 have i1 := (blk_cell BI.out 1).trans rfl
 have i2 := (blk_cell BI.out 2).trans rfl
 have i3 := (blk_cell BI.out 3).trans rfl
 have i4 := (blk_cell BI.out 4).trans rfl
 have i5 := (blk_cell BI.out 5).trans rfl
 have i6 := (blk_cell BI.out 6).trans rfl
 have i7 := (blk_cell BI.out 7).trans rfl
 have r0 := (blk_cell BR.out 0).trans rfl
 have f0 := blk_frozen BR.out 0
 have r1 := (blk_cell BR.out 1).trans rfl
 have f1 := blk_frozen BR.out 1
 have r2 := (blk_cell BR.out 2).trans rfl
 have f2 := blk_frozen BR.out 2
 have r3 := (blk_cell BR.out 3).trans rfl
 have f3 := blk_frozen BR.out 3
 have r4 := (blk_cell BR.out 4).trans rfl
 have f4 := blk_frozen BR.out 4
 have r5 := (blk_cell BR.out 5).trans rfl
 have f5 := blk_frozen BR.out 5
 have r6 := (blk_cell BR.out 6).trans rfl
 have f6 := blk_frozen BR.out 6
 have r7 := (blk_cell BR.out 7).trans rfl
 have f7 := blk_frozen BR.out 7
 have nir := RI.out
 have nri := Ne.symm RI.out
 go_wp2
 replace BR := aS (blk_put (blk_put (blk_put (blk_put (blk_put (blk_put (blk_put (blk_put BR.out 0 (.int .i64 8) rfl) 1 (.int .i64 1) rfl) 2 (.int .i64 0) rfl) 3 (.int .i64 0) rfl) 4 (.int .i64 0) rfl) 5 (.bool false) rfl) 6 (.slice none 0 0) rfl) 7 (.slice none 0 0) rfl)
 replace HI := aS (IsS104.far (p := ⟨gr, 7, none⟩) (IsS104.far (p := ⟨gr, 6, none⟩) (IsS104.far (p := ⟨gr, 5, none⟩) (IsS104.far (p := ⟨gr, 4, none⟩) (IsS104.far (p := ⟨gr, 3, none⟩) (IsS104.far (p := ⟨gr, 2, none⟩) (IsS104.far (p := ⟨gr, 1, none⟩) (IsS104.far (p := ⟨gr, 0, none⟩) HI.out (Ne.symm NR.out) (.int .i64 8)) (Ne.symm NR.out) (.int .i64 1)) (Ne.symm NR.out) (.int .i64 0)) (Ne.symm NR.out) (.int .i64 0)) (Ne.symm NR.out) (.int .i64 0)) (Ne.symm NR.out) (.bool false)) (Ne.symm NR.out) (.slice none 0 0)) (Ne.symm NR.out) (.slice none 0 0))
 replace HB := aS (below_set (j := 7) (v := .slice none 0 0) (below_set (j := 6) (v := .slice none 0 0) (below_set (j := 5) (v := .bool false) (below_set (j := 4) (v := .int .i64 0) (below_set (j := 3) (v := .int .i64 0) (below_set (j := 2) (v := .int .i64 0) (below_set (j := 1) (v := .int .i64 1) (below_set (j := 0) (v := .int .i64 8) HB.out ZW.out) ZW.out) ZW.out) ZW.out) ZW.out) ZW.out) ZW.out) ZW.out)
 replace HK := aS (keep_far (keep_far (keep_far (keep_far (keep_far (keep_far (keep_far (keep_far HK.out (p := ⟨gr, 0, none⟩) ZR.out (.int .i64 8)) (p := ⟨gr, 1, none⟩) ZR.out (.int .i64 1)) (p := ⟨gr, 2, none⟩) ZR.out (.int .i64 0)) (p := ⟨gr, 3, none⟩) ZR.out (.int .i64 0)) (p := ⟨gr, 4, none⟩) ZR.out (.int .i64 0)) (p := ⟨gr, 5, none⟩) ZR.out (.bool false)) (p := ⟨gr, 6, none⟩) ZR.out (.slice none 0 0)) (p := ⟨gr, 7, none⟩) ZR.out (.slice none 0 0))
 clear r0 r1 r2 r3 r4 r5 r6 r7 f0 f1 f2 f3 f4 f5 f6 f7 i0 i1 i2 i3 i4 i5 i6 i7 s4 nir nri
 generalize (World.setCell (World.setCell (World.setCell (World.setCell (World.setCell (World.setCell (World.setCell (World.setCell w18 ⟨gr, 0, none⟩ (.int .i64 8)) ⟨gr, 1, none⟩ (.int .i64 1)) ⟨gr, 2, none⟩ (.int .i64 0)) ⟨gr, 3, none⟩ (.int .i64 0)) ⟨gr, 4, none⟩ (.int .i64 0)) ⟨gr, 5, none⟩ (.bool false)) ⟨gr, 6, none⟩ (.slice none 0 0)) ⟨gr, 7, none⟩ (.slice none 0 0)) = wz at HI HB HK BR ⊢
 have e0 := (blk_cell BR.out 0).trans rfl
 have e1 := (blk_cell BR.out 1).trans rfl
 have e2 := (blk_cell BR.out 2).trans rfl
 have e3 := (blk_cell BR.out 3).trans rfl
 have e4 := (blk_cell BR.out 4).trans rfl
 have e5 := (blk_cell BR.out 5).trans rfl
 have e6 := (blk_cell BR.out 6).trans rfl
 have e7 := (blk_cell BR.out 7).trans rfl
 refine bodyPost_ret (by simp [results, Tryz.results64, go_sem, e0, e1, e2, e3, e4, e5, e6, e7]) rfl ⟨rfl, HI.out, HB.out, HK.out⟩
theorem insT_at (g : Nat) (w0 w : World) (hG : GW w0) (hI : IsS104 w0 w g sqBytes 15 (-1)) (hB : Below w0.heap.size w0 w) :
 Calls Tryz.prog 64 #[.pointer (some ⟨g, 0, none⟩)] w fun e w' => e = .returned (.agg #[.int .i64 26, .int .i64 1, .int .i64 0, .int .i64 0, .int .i64 0, .bool false, .slice none 0 0, .slice none 0 0]) ∧ IsS104 w0 w' g sqBytes 17 (-1) ∧ Below w0.heap.size w0 w' ∧ KeepBut w w' g none := by
 have hu63 := Tryz.underlying63
 have hu72 := Tryz.underlying72
 have hu75 := Tryz.underlying75
 have hu78 := Tryz.underlying78
 have hu61 := Tryz.underlying61
 have HG := aS hG
 have HI := aS (IsS104.alloc hI (.cells #[.int .i64 0, .int .i64 0, .int .i64 0, .int .i64 0, .int .i64 0, .bool false, .slice none 0 0, .slice none 0 0] 63))
 have HB := aS (below_alloc hB (.cells #[.int .i64 0, .int .i64 0, .int .i64 0, .int .i64 0, .int .i64 0, .bool false, .slice none 0 0, .slice none 0 0] 63))
 have HK := aS (keep_alloc (KeepBut.refl w g none) (.cells #[.int .i64 0, .int .i64 0, .int .i64 0, .int .i64 0, .int .i64 0, .bool false, .slice none 0 0, .slice none 0 0] 63))
 have BR := aS (blk_new w (.cells #[.int .i64 0, .int .i64 0, .int .i64 0, .int .i64 0, .int .i64 0, .bool false, .slice none 0 0, .slice none 0 0] 63))
 have NR := aS (Nat.ne_of_gt hI.lt)
 have ZR := aS (Nat.le_refl w.heap.size)
 have ZB := aS hB.size
 clear hI hB hG
 go_enter Tryz.func64, Tryz.ntmps64
 go_wp2_with fail
 generalize w.alloc (.cells #[.int .i64 0, .int .i64 0, .int .i64 0, .int .i64 0, .int .i64 0, .bool false, .slice none 0 0, .slice none 0 0] 63) = w1 at HI HB HK BR ⊢
 generalize hgr : w.heap.size = gr at BR NR ZR ⊢
 have ZW : Aside0 (w0.heap.size ≤ gr) := ⟨by have := ZB.out; omega⟩
 replace ZR : Aside0 (w.heap.size ≤ gr) := ⟨by omega⟩
 clear hgr ZB
 (with_reducible refine (within_at 15 15 16 52 26 rfl rfl (by decide) rfl (by decide) (by decide) (by decide) g _ _ HI.out HB.out).mono ?_)
 rintro e w2 ⟨rfl, hi, hb, hk⟩
 replace HI := aS hi
 replace HB := aS hb
 replace HK := aS (KeepBut.trans HK.out hk (.inl rfl))
 replace BR := aS (KeepBut.blk hk BR.out NR.out (by simp))
 clear hb hk
 obtain ⟨A, c, hg, -⟩ := hi
 have z2 : ∀ o, (w2.alloc o).cell? ⟨g, 2, none⟩ = some (.int .i64 (-1)) := fun o => (blk_cell (blk_alloc hg o) 2).trans rfl
 clear hg A c
 go_wp2_with fail
 clear z2
 have BI := aS (blk_new w2 (.cells #[.int .i64 26, .int .i64 0, .int .i64 0, .int .i64 0, .int .i64 0, .bool false, .slice none 0 0, .slice none 0 0] 63))
 have NI := aS (Nat.ne_of_gt HI.out.lt)
 have RI := aS (Nat.ne_of_gt (blk_lt BR.out))
 have ZI := aS HK.out.1
 have ZG := aS HB.out.size
 replace HI := aS (HI.out.alloc (.cells #[.int .i64 26, .int .i64 0, .int .i64 0, .int .i64 0, .int .i64 0, .bool false, .slice none 0 0, .slice none 0 0] 63))
 replace HB := aS (below_alloc HB.out (.cells #[.int .i64 26, .int .i64 0, .int .i64 0, .int .i64 0, .int .i64 0, .bool false, .slice none 0 0, .slice none 0 0] 63))
 replace HK := aS (keep_alloc HK.out (.cells #[.int .i64 26, .int .i64 0, .int .i64 0, .int .i64 0, .int .i64 0, .bool false, .slice none 0 0, .slice none 0 0] 63))
 replace BR := aS (blk_alloc BR.out (.cells #[.int .i64 26, .int .i64 0, .int .i64 0, .int .i64 0, .int .i64 0, .bool false, .slice none 0 0, .slice none 0 0] 63))
 generalize w2.alloc (.cells #[.int .i64 26, .int .i64 0, .int .i64 0, .int .i64 0, .int .i64 0, .bool false, .slice none 0 0, .slice none 0 0] 63) = w3 at HI HB HK BR BI ⊢
 generalize w2.heap.size = gi at BI NI RI ZI ZG ⊢
 have hof : code_of.f 26 = some (⟨#[114, 101, 116, 117, 114, 110]⟩, 6, 0, 0, false, 0, 0, true) := by kernel_rfl
 (with_reducible refine (code_of.calls 26 _ _ _ _ _ _ _ _ _ (HG.out.below HB.out) hof).mono ?_)
 rintro e w4 ⟨rfl, hb⟩
 clear hof
 replace HI := aS (HI.out.below hb)
 replace HB := aS (bs_ HB.out hb)
 replace HK := aS (KeepBut.trans HK.out (KeepBut.of_below hb g none) (.inl rfl))
 replace BR := aS (blk_below BR.out hb)
 replace BI := aS (blk_below BI.out hb)
 clear hb
 go_wp2_with fail
 have BS := aS (blk_new w4 (.cells #[.string ⟨#[114, 101, 116, 117, 114, 110]⟩, .int .i64 6, .int .i64 0, .int .i64 0, .bool false, .int .i64 0, .int .i64 0] 72))
 have NS := aS (Nat.ne_of_gt HI.out.lt)
 replace HI := aS (HI.out.alloc (.cells #[.string ⟨#[114, 101, 116, 117, 114, 110]⟩, .int .i64 6, .int .i64 0, .int .i64 0, .bool false, .int .i64 0, .int .i64 0] 72))
 replace HB := aS (below_alloc HB.out (.cells #[.string ⟨#[114, 101, 116, 117, 114, 110]⟩, .int .i64 6, .int .i64 0, .int .i64 0, .bool false, .int .i64 0, .int .i64 0] 72))
 replace HK := aS (keep_alloc HK.out (.cells #[.string ⟨#[114, 101, 116, 117, 114, 110]⟩, .int .i64 6, .int .i64 0, .int .i64 0, .bool false, .int .i64 0, .int .i64 0] 72))
 replace BR := aS (blk_alloc BR.out (.cells #[.string ⟨#[114, 101, 116, 117, 114, 110]⟩, .int .i64 6, .int .i64 0, .int .i64 0, .bool false, .int .i64 0, .int .i64 0] 72))
 have SI := aS (Nat.ne_of_gt (blk_lt BI.out))
 replace BI := aS (blk_alloc BI.out (.cells #[.string ⟨#[114, 101, 116, 117, 114, 110]⟩, .int .i64 6, .int .i64 0, .int .i64 0, .bool false, .int .i64 0, .int .i64 0] 72))
 generalize w4.alloc (.cells #[.string ⟨#[114, 101, 116, 117, 114, 110]⟩, .int .i64 6, .int .i64 0, .int .i64 0, .bool false, .int .i64 0, .int .i64 0] 72) = w5 at HI HB HK BR BI BS ⊢
 generalize w4.heap.size = gs at BS SI NS ⊢
 (with_reducible refine (uses_calls _ _ _ _ _ _ _ _).mono ?_)
 rintro e w6 ⟨rfl, hb⟩
 replace HI := aS (HI.out.below hb)
 replace HB := aS (bs_ HB.out hb)
 replace HK := aS (KeepBut.trans HK.out (KeepBut.of_below hb g none) (.inl rfl))
 replace BR := aS (blk_below BR.out hb)
 replace BI := aS (blk_below BI.out hb)
 replace BS := aS (blk_below BS.out hb)
 clear hb
 go_wp2
 refine wp_loop_rounds 4 ?_
 rw [rounds_succ]
 go_wp2
 replace HI := aS HI.out.drew
 replace HB := aS (below_drew1 HB.out)
 replace HK := aS (keep_drew HK.out)
 replace BR := aS (blk_drew BR.out)
 replace BI := aS (blk_drew BI.out)
 replace BS := aS (blk_drew BS.out)
 refine start_ (n := 7) (S := fun w' => True) (ds := []) (mk 7 0) (by kernel_rfl) rfl (by kernel_rfl) trivial (fun hHeld => ?_)
 generalize w6.drew = w7 at HI HB HK BR BI BS ⊢
 refine pu 1 32 (mk 7 2) (by kernel_rfl) ?_
 refine pu 3 34 (mk 7 10) (by kernel_rfl) ?_
 refine one_ (i := 0) (N := some 31) (mk 7 11) rfl rfl (by kernel_rfl) (by decide) (fun K hK => ?_)
 refine goes_ Tryz.func43 (by kernel_rfl) rfl #[.pointer (some ⟨gi, 0, none⟩)] (by rfl) rfl rfl (by (try simp only [List.map_toArray, List.map_cons, List.map_nil]); first | done | rfl) ?_
 with_reducible refine (fields_calls gi _).mono ?_
 rintro e w8 ⟨rfl, hb⟩
 refine ⟨_, rfl, ?_⟩
 replace HI := aS (HI.out.below hb)
 replace HB := aS (bs_ HB.out hb)
 replace HK := aS (KeepBut.trans HK.out (KeepBut.of_below hb g none) (.inl rfl))
 replace BR := aS (blk_below BR.out hb)
 replace BI := aS (blk_below BI.out hb)
 replace BS := aS (blk_below BS.out hb)
 clear hb
 refine hK.out _ _ trivial (fun hHeld => ?_)
 clear hK K
 refine norm_ (a' := ?_) ?_ ?_
 rotate_left
 ·show Act.put _ (some 31) _ = _
  simp only [Act.put, List.setIfInBounds_toArray, List.set_cons_zero, List.set_cons_succ, i64_w, i32_w]
  rfl
 refine tk 2 33 (mk 7 15) (by kernel_rfl) hHeld ?_
 refine one_ (i := 4) (N := some 35) (mk 7 31) rfl rfl (by kernel_rfl) (by decide) (fun K hK => ?_)
 refine goes_ Tryz.func63 (by kernel_rfl) rfl #[.pointer (some ⟨g, 0, none⟩)] (by rfl) rfl rfl (by (try simp only [List.map_toArray, List.map_cons, List.map_nil]); first | done | rfl) ?_
 with_reducible refine (whole_c 16 16 17 2 1 rfl rfl (by decide) rfl (by decide) g _ _ HI.out HB.out).mono ?_
 rintro e w9 ⟨rfl, hi, hb, hk⟩
 refine ⟨_, rfl, ?_⟩
 replace HI := aS hi
 replace HB := aS hb
 replace HK := aS (KeepBut.trans HK.out hk (.inl rfl))
 replace BR := aS (KeepBut.blk hk BR.out NR.out (by simp))
 replace BI := aS (KeepBut.blk hk BI.out NI.out (by simp))
 replace BS := aS (KeepBut.blk hk BS.out NS.out (by simp))
 clear hb hk hi
 refine hK.out _ _ trivial (fun hHeld => ?_)
 clear hK K
 refine norm_ (a' := ?_) ?_ ?_
 rotate_left
 ·show Act.put _ (some 35) _ = _
  simp only [Act.put, List.setIfInBounds_toArray, List.set_cons_zero, List.set_cons_succ, i64_w, i32_w]
  rfl
 refine pu 5 36 (mk 7 63) (by kernel_rfl) ?_
 refine one_ (i := 6) (N := none) (mk 7 127) rfl rfl (by kernel_rfl) (by decide) (fun K hK => ?_)
 have hs := (blk_cell BI.out 1).trans rfl
 have hf := blk_frozen BI.out 1
 refine skip_ (w1 := ?_) (by rfl) rfl ?_ ?_
 rotate_left
 ·go_simp
  rfl
 refine hK.out _ _ trivial (fun hHeld => ?_)
 clear hK K hs hf hHeld
 replace HI := aS (IsS104.far HI.out (p := ⟨gi, 1, none⟩) (Ne.symm NI.out) (.int .i64 1))
 replace HB := aS (below_set (j := 1) (v := .int .i64 1) HB.out ZG.out)
 replace HK := aS (keep_far HK.out (p := ⟨gi, 1, none⟩) ZI.out (.int .i64 1))
 replace BR := aS (blk_far (p := ⟨gi, 1, none⟩) BR.out (Ne.symm RI.out) (.int .i64 1))
 replace BS := aS (blk_far (p := ⟨gi, 1, none⟩) BS.out SI.out (.int .i64 1))
 replace BI := aS (blk_put BI.out 1 (.int .i64 1) rfl)
 generalize w9.setCell ⟨gi, 1, none⟩ (.int .i64 1) = w10 at HI HB HK BR BI BS ⊢
 refine done_ (by kernel_rfl) ?_
 go_wp2
 rw [rounds_succ]
 go_wp2
 rw [rounds_succ]
 go_wp2
 rw [rounds_succ]
 have s4 := (blk_cell BS.out 4).trans rfl
 have i0 := (blk_cell BI.out 0).trans rfl
 have i1 := (blk_cell BI.out 1).trans rfl
 have i2 := (blk_cell BI.out 2).trans rfl
 have i3 := (blk_cell BI.out 3).trans rfl
 have i4 := (blk_cell BI.out 4).trans rfl
 have i5 := (blk_cell BI.out 5).trans rfl
 have i6 := (blk_cell BI.out 6).trans rfl
 have i7 := (blk_cell BI.out 7).trans rfl
 have r0 := (blk_cell BR.out 0).trans rfl
 have f0 := blk_frozen BR.out 0
 have r1 := (blk_cell BR.out 1).trans rfl
 have f1 := blk_frozen BR.out 1
 have r2 := (blk_cell BR.out 2).trans rfl
 have f2 := blk_frozen BR.out 2
 have r3 := (blk_cell BR.out 3).trans rfl
 have f3 := blk_frozen BR.out 3
 have r4 := (blk_cell BR.out 4).trans rfl
 have f4 := blk_frozen BR.out 4
 have r5 := (blk_cell BR.out 5).trans rfl
 have f5 := blk_frozen BR.out 5
 have r6 := (blk_cell BR.out 6).trans rfl
 have f6 := blk_frozen BR.out 6
 have r7 := (blk_cell BR.out 7).trans rfl
 have f7 := blk_frozen BR.out 7
 have nir := RI.out
 have nri := Ne.symm RI.out
 go_wp2
 replace BR := aS (blk_put (blk_put (blk_put (blk_put (blk_put (blk_put (blk_put (blk_put BR.out 0 (.int .i64 26) rfl) 1 (.int .i64 1) rfl) 2 (.int .i64 0) rfl) 3 (.int .i64 0) rfl) 4 (.int .i64 0) rfl) 5 (.bool false) rfl) 6 (.slice none 0 0) rfl) 7 (.slice none 0 0) rfl)
 replace HI := aS (IsS104.far (p := ⟨gr, 7, none⟩) (IsS104.far (p := ⟨gr, 6, none⟩) (IsS104.far (p := ⟨gr, 5, none⟩) (IsS104.far (p := ⟨gr, 4, none⟩) (IsS104.far (p := ⟨gr, 3, none⟩) (IsS104.far (p := ⟨gr, 2, none⟩) (IsS104.far (p := ⟨gr, 1, none⟩) (IsS104.far (p := ⟨gr, 0, none⟩) HI.out (Ne.symm NR.out) (.int .i64 26)) (Ne.symm NR.out) (.int .i64 1)) (Ne.symm NR.out) (.int .i64 0)) (Ne.symm NR.out) (.int .i64 0)) (Ne.symm NR.out) (.int .i64 0)) (Ne.symm NR.out) (.bool false)) (Ne.symm NR.out) (.slice none 0 0)) (Ne.symm NR.out) (.slice none 0 0))
 replace HB := aS (below_set (j := 7) (v := .slice none 0 0) (below_set (j := 6) (v := .slice none 0 0) (below_set (j := 5) (v := .bool false) (below_set (j := 4) (v := .int .i64 0) (below_set (j := 3) (v := .int .i64 0) (below_set (j := 2) (v := .int .i64 0) (below_set (j := 1) (v := .int .i64 1) (below_set (j := 0) (v := .int .i64 26) HB.out ZW.out) ZW.out) ZW.out) ZW.out) ZW.out) ZW.out) ZW.out) ZW.out)
 replace HK := aS (keep_far (keep_far (keep_far (keep_far (keep_far (keep_far (keep_far (keep_far HK.out (p := ⟨gr, 0, none⟩) ZR.out (.int .i64 26)) (p := ⟨gr, 1, none⟩) ZR.out (.int .i64 1)) (p := ⟨gr, 2, none⟩) ZR.out (.int .i64 0)) (p := ⟨gr, 3, none⟩) ZR.out (.int .i64 0)) (p := ⟨gr, 4, none⟩) ZR.out (.int .i64 0)) (p := ⟨gr, 5, none⟩) ZR.out (.bool false)) (p := ⟨gr, 6, none⟩) ZR.out (.slice none 0 0)) (p := ⟨gr, 7, none⟩) ZR.out (.slice none 0 0))
 clear r0 r1 r2 r3 r4 r5 r6 r7 f0 f1 f2 f3 f4 f5 f6 f7 i0 i1 i2 i3 i4 i5 i6 i7 s4 nir nri
 generalize (World.setCell (World.setCell (World.setCell (World.setCell (World.setCell (World.setCell (World.setCell (World.setCell w10 ⟨gr, 0, none⟩ (.int .i64 26)) ⟨gr, 1, none⟩ (.int .i64 1)) ⟨gr, 2, none⟩ (.int .i64 0)) ⟨gr, 3, none⟩ (.int .i64 0)) ⟨gr, 4, none⟩ (.int .i64 0)) ⟨gr, 5, none⟩ (.bool false)) ⟨gr, 6, none⟩ (.slice none 0 0)) ⟨gr, 7, none⟩ (.slice none 0 0)) = wz at HI HB HK BR ⊢
 have e0 := (blk_cell BR.out 0).trans rfl
 have e1 := (blk_cell BR.out 1).trans rfl
 have e2 := (blk_cell BR.out 2).trans rfl
 have e3 := (blk_cell BR.out 3).trans rfl
 have e4 := (blk_cell BR.out 4).trans rfl
 have e5 := (blk_cell BR.out 5).trans rfl
 have e6 := (blk_cell BR.out 6).trans rfl
 have e7 := (blk_cell BR.out 7).trans rfl
 refine bodyPost_ret (by simp [results, Tryz.results64, go_sem, e0, e1, e2, e3, e4, e5, e6, e7]) rfl ⟨rfl, HI.out, HB.out, HK.out⟩
end Go.Proofs.YtbkknoipgmlcmaaGreatDoor.P

