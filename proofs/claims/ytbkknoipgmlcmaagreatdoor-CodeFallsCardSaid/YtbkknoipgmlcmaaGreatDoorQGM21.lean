import Derived.Test.YtbkknoipgmlcmaaGreatDoorQGM20
import Derived.Test.YtbkknoipgmlcmaaGreatDoorQGM19
set_option linter.all false
set_option maxHeartbeats 8000000
set_option maxRecDepth 100000
namespace Go.Proofs.QP
open Go.RowKit Go.Proofs.PW Go.Proofs.PL Go.Proofs.PM Go.Proofs.FX
section
section
attribute [local go_sem] Instr.index yd zV
theorem z95 (ab ao bb bo : Nat) (al bl : Option Nat) (c d : Nat) (x y : Int) (w : World) (a0 : w.cell? ⟨ab, ao, al⟩ = some (.int .u8 x)) (a1 : w.cell? ⟨ab, ao + 1, none⟩ = some (.int .u8 y)) (b0 : w.cell? ⟨bb, bo, bl⟩ = some (.int .u8 x)) (b1 : w.cell? ⟨bb, bo + 1, none⟩ = some (.int .u8 y)) :
 Calls Tryz.prog 65 #[.slice (some ⟨ab, ao, al⟩) 2 c, .slice (some ⟨bb, bo, bl⟩) 2 d] w fun e w' => e = .returned (.bool true) ∧ zj w w' := by
 go_enter Tryz.func65, Tryz.ntmps65
 go_wp2
 refine wp_loop_rounds 3 ?_
 rw [rounds_succ]
 go_wp2
 go_quiet (fail)
 go_wp2
 rw [rounds_succ]
 go_wp2
 go_quiet (fail)
 go_wp2
 rw [rounds_succ]
 go_wp2
 all_goals go_ret
 all_goals exact ⟨rfl, ⟨_, rfl⟩⟩
theorem zcC {α : Type} {d : Kd α} {e base : Nat} {v : Value} {xs : List α} {w0 W W' : World} (h : d.R e W base (fun _ => True) v xs) (hb : z5e w0 W W') (ht : ∀ q, q ∈ e :: d.E → q ≠ 5 := by decide) : d.R e W' base (fun _ => True) v xs :=
 Kd.zw (Kd.z3g (Kd.z09 h) (fun k hk _ => by
  obtain ⟨_, _, _, q, hq, cs, hc⟩ := hk
  rw [hb.2 k cs q (ht q hq) hc, hc])) (fun _ _ => trivial)
theorem tb {a b c : World} (h : Aside0 (Below a.heap.size a b)) (k : Below b.heap.size b c) : Below a.heap.size a c := h.out.trans (k.mono h.out.size)
def zcp : Bool × List (List Nat × List Nat) := (true, [([], []), ([0], [0]), ([], []), ([2], [2]), ([3], [3]), ([1, 4, 3], [1, 4]), ([0, 1, 2, 3, 4, 5], []), ([6, 5, 5, 0, 1, 2, 3, 4, 5], [5, 6])])
def zd6 : List Nat := [0, 1, 0, 4, 12, 31, 63, 127]
theorem z5K : z06 .any (opsOf Tryz.f22 16) = zcp := by kernel_rfl
theorem z4W : z0f zcp.2 zd6 = true := by kernel_rfl
theorem zaN (ab ao : Nat) (al : Option Nat) (c : Nat) (w : World) (hG : GW w) (hr : Kd.C (Kd.int .u8) w (some ⟨ab, ao, al⟩) 19 yj) (hc : 19 ≤ c) :
 Calls Tryz.prog 22 #[.slice (some ⟨ab, ao, al⟩) 19 c] w fun e w' => ∃ v, e = .returned (.tuple #[v, .int .i64 0, .int .i64 0]) ∧ Kd.R k50 50 w' w.heap.size (fun _ => True) v [sqR] ∧ Below w.heap.size w w' := by
 have hu50 := Tryz.underlying50
 have hu104 := Tryz.underlying104
 have HG := aS hG
 have HCl : Aside0 (Calls Tryz.prog 59 #[.slice (some ⟨ab, ao, al⟩) 19 c] w fun e w' => ∃ v, e = .returned v ∧ Kd.R (Kd.int .u8) 5 w' w.heap.size (fun _ => True) v yj ∧ Below w.heap.size w w') := ⟨z6E _ c yj w hr (by decide)⟩
 have HS : Aside0 (∀ W, Below w.heap.size w W → Calls Tryz.prog 45 #[.slice (some ⟨ab, ao, al⟩) 17 c] W fun e w' => e = .returned (.int .i64 194) ∧ zj W w') := ⟨fun W hb => z0D.calls 20 (some ⟨ab, ao, al⟩) c (yj.take 17) 194 W (Kd.z62 (m := 17) (Kd.zK hr hb) (by decide)) (Nat.le_trans (by decide) hc) (by kernel_rfl)⟩
 have hA : w.cell? ⟨ab, ao + 17, none⟩ = some (.int .u8 132) ∧ w.cell? ⟨ab, ao + 17 + 1, none⟩ = some (.int .u8 3) := by
  obtain ⟨ad, he, h⟩ := (Kd.xv (enc := Value.int .u8) (d := (0 : Int)) (h1 := fun _ => rfl) hr).2.2 (by decide)
  injection he with he
  subst he
  exact ⟨h 17 (by decide), h 18 (by decide)⟩
 have HA := aS hA
 clear hA
 have k1 : (17 ≤ (c : Int)) = True := eq_true (by omega)
 have k2 : (17 ≤ c) = True := eq_true (by omega)
 have k3 : (c = 17) = False := eq_false (by omega)
 have k4 : (19 ≤ (c : Int)) = True := eq_true (by omega)
 have k5 : (19 ≤ c) = True := eq_true (by omega)
 clear hG hr hc
 go_enter Tryz.func22, Tryz.ntmps22
 go_wp2_with fail
 (with_reducible refine HCl.out.mono ?_)
 rintro e_ w1 ⟨v1, rfl, hR, hb⟩
 obtain ⟨Ac, cc, rfl⟩ := Kd.zB hR
 have hq := Kd.zz hR
 have HB1 := aS hb
 replace HG := aS (HG.out.below hb)
 have HI := aS (zI.new w1 w1 Ac cc yj 0 (-1) (Below.refl _ _) hq.2.2 hq.2.1)
 have HB := aS (zl (Below.refl w1.heap.size w1) (.cells #[.slice Ac yj.length cc, .int .i64 0, .int .i64 (-1)] 104))
 clear hR hb hq HCl
 go_wp2_with fail
 generalize w1.alloc (.cells #[.slice Ac yj.length cc, .int .i64 0, .int .i64 (-1)] 104) = w2 at HI HB ⊢
 generalize hgg : w1.heap.size = g at HI ⊢
 clear hgg
 (with_reducible refine (z3Q 0 0 1 2 1 rfl rfl (by decide) rfl (by decide) (by decide) g _ _ HI.out HB.out).mono ?_)
 rintro e_ w3 ⟨rfl, hi, hb, hk⟩
 replace HI := aS hi
 replace HB := aS hb
 clear hi hb hk
 go_wp2
 refine wp_loop_rounds 2 ?_
 rw [rounds_succ]
 obtain ⟨Az, cz, hz, -⟩ := HI.out
 have z2 := z0s hz
 clear hz
 go_wp2_with fail
 clear z2
 (with_reducible refine (zc9  g _ _ HI.out HB.out).mono ?_)
 rintro e_ w4 ⟨rfl, hi, hb, hk⟩
 replace HI := aS hi
 replace HB := aS hb
 clear hi hb hk
 go_wp2_with fail
 have BX := aS (xt w4 (.cells #[.string ⟨#[102]⟩, .slice none 0 0, .slice none 0 0, .int .i64 0, .slice none 0 0] 50))
 have NX := aS (Nat.ne_of_gt HI.out.lt)
 have ZX := aS HB.out.size
 replace HI := aS (HI.out.alloc (.cells #[.string ⟨#[102]⟩, .slice none 0 0, .slice none 0 0, .int .i64 0, .slice none 0 0] 50))
 replace HB := aS (zl HB.out (.cells #[.string ⟨#[102]⟩, .slice none 0 0, .slice none 0 0, .int .i64 0, .slice none 0 0] 50))
 generalize w4.alloc (.cells #[.string ⟨#[102]⟩, .slice none 0 0, .slice none 0 0, .int .i64 0, .slice none 0 0] 50) = wx at HI HB BX ⊢
 generalize w4.heap.size = gx at BX NX ZX ⊢
 (with_reducible refine (z3Q 3 3 4 2 1 rfl rfl (by decide) rfl (by decide) (by decide) g _ _ HI.out HB.out).mono ?_)
 rintro e_ w5 ⟨rfl, hi, hb, hk⟩
 replace BX := aS (zu.blk hk BX.out NX.out (by simp))
 replace HI := aS hi
 replace HB := aS hb
 clear hi hb hk
 go_wp2_with fail
 (with_reducible refine (z3Q 4 4 5 2 1 rfl rfl (by decide) rfl (by decide) (by decide) g _ _ HI.out HB.out).mono ?_)
 rintro e_ w6 ⟨rfl, hi, hb, hk⟩
 replace BX := aS (zu.blk hk BX.out NX.out (by simp))
 replace HI := aS hi
 replace HB := aS hb
 clear hi hb hk
 go_wp2_with fail
 (with_reducible refine (z7e 5 (by decide) rfl rfl g _ _ HI.out HB.out).mono ?_)
 rintro e_ w7 ⟨v_, rfl, hR, hi, hb, hk⟩
 have RP := aS (Kd.zL hR HB.out.size)
 obtain ⟨ARP, cRP, rfl⟩ := Kd.zB RP.out
 replace BX := aS (zu.blk hk BX.out NX.out (by simp))
 replace HI := aS hi
 replace HB := aS hb
 clear hi hb hk
 have hs := (za BX.out 1).trans rfl
 have hf := zn BX.out 1
 go_wp2_with fail
 clear hs hf
 replace RP := aS (Kd.z2s RP.out BX.out (by decide) 1 (.slice ARP 1 cRP))
 replace HI := aS (zI.far HI.out (p := ⟨gx, 1, none⟩) (Ne.symm NX.out) (.slice ARP 1 cRP))
 replace HB := aS (zG (j := 1) (v := .slice ARP 1 cRP) HB.out ZX.out)
 replace BX := aS (yv BX.out 1 (.slice ARP 1 cRP) rfl)
 generalize World.setCell _ ⟨gx, 1, none⟩ (.slice ARP 1 cRP) = w8 at RP HI HB BX ⊢
 (with_reducible refine (z7e 7 (by decide) rfl rfl g _ _ HI.out HB.out).mono ?_)
 rintro e_ w9 ⟨v_, rfl, hR, hi, hb, hk⟩
 have RQ := aS (Kd.zL hR HB.out.size)
 obtain ⟨ARQ, cRQ, rfl⟩ := Kd.zB RQ.out
 replace RP := aS (z5g HI.out RP.out hk)
 replace BX := aS (zu.blk hk BX.out NX.out (by simp))
 replace HI := aS hi
 replace HB := aS hb
 clear hi hb hk
 have hs := (za BX.out 2).trans rfl
 have hf := zn BX.out 2
 go_wp2_with fail
 clear hs hf
 replace RP := aS (Kd.z2s RP.out BX.out (by decide) 2 (.slice ARQ 1 cRQ))
 replace RQ := aS (Kd.z2s RQ.out BX.out (by decide) 2 (.slice ARQ 1 cRQ))
 replace HI := aS (zI.far HI.out (p := ⟨gx, 2, none⟩) (Ne.symm NX.out) (.slice ARQ 1 cRQ))
 replace HB := aS (zG (j := 2) (v := .slice ARQ 1 cRQ) HB.out ZX.out)
 replace BX := aS (yv BX.out 2 (.slice ARQ 1 cRQ) rfl)
 generalize World.setCell _ ⟨gx, 2, none⟩ (.slice ARQ 1 cRQ) = w10 at RP RQ HI HB BX ⊢
 (with_reducible refine (z2j 9 9 10 4 2 rfl rfl (by decide) rfl (by decide) g _ _ HI.out HB.out).mono ?_)
 rintro e_ w11 ⟨rfl, hi, hb, hk⟩
 replace RP := aS (z5g HI.out RP.out hk)
 replace RQ := aS (z5g HI.out RQ.out hk)
 replace BX := aS (zu.blk hk BX.out NX.out (by simp))
 replace HI := aS hi
 replace HB := aS hb
 clear hi hb hk
 have hs := (za BX.out 3).trans rfl
 have hf := zn BX.out 3
 go_wp2_with fail
 clear hs hf
 replace RP := aS (Kd.z2s RP.out BX.out (by decide) 3 (.int .i64 2))
 replace RQ := aS (Kd.z2s RQ.out BX.out (by decide) 3 (.int .i64 2))
 replace HI := aS (zI.far HI.out (p := ⟨gx, 3, none⟩) (Ne.symm NX.out) (.int .i64 2))
 replace HB := aS (zG (j := 3) (v := .int .i64 2) HB.out ZX.out)
 replace BX := aS (yv BX.out 3 (.int .i64 2) rfl)
 generalize World.setCell _ ⟨gx, 3, none⟩ (.int .i64 2) = w12 at RP RQ HI HB BX ⊢
 (with_reducible refine (z3Q 10 10 11 4 2 rfl rfl (by decide) rfl (by decide) (by decide) g _ _ HI.out HB.out).mono ?_)
 rintro e_ w13 ⟨rfl, hi, hb, hk⟩
 replace RP := aS (z5g HI.out RP.out hk)
 replace RQ := aS (z5g HI.out RQ.out hk)
 replace BX := aS (zu.blk hk BX.out NX.out (by simp))
 replace HI := aS hi
 replace HB := aS hb
 clear hi hb hk
 go_wp2
 refine wp_loop_rounds 3 ?_
 rw [rounds_succ]
 obtain ⟨Az, cz, hz, -⟩ := HI.out
 have z2 := z0s hz
 clear hz
 go_wp2
 clear z2
 replace RP := aS (Kd.xu RP.out)
 replace RQ := aS (Kd.xu RQ.out)
 replace HI := aS HI.out.drew
 replace HB := aS (zD HB.out)
 replace BX := aS (yb BX.out)
 refine z16 (n := 8) (S := fun w' => w'.cell? ⟨gx, 4, none⟩ = some (.slice none 0 0)) (ds := [7]) (mk 8 0) (by kernel_rfl) rfl (by kernel_rfl) ((za BX.out 4).trans rfl) (fun hHeld => ?_)
 refine z0K z5K z4W (fun HT_ HW_ => ?_)
 generalize World.drew _ = w14 at RP RQ HI HB BX hHeld ⊢
 refine pv 0 66 (mk 8 1) ?_
 refine pv 2 68 (mk 8 5) ?_
 refine tv 1 67 (mk 8 7) hHeld ?_
 refine z0Z (i := 3) (N := some 69) (mk 8 15) rfl rfl (z0k HT_.out (by kernel_rfl)) (by decide) (fun K hK => ?_)
 refine z1C Tryz.func64 (by kernel_rfl) rfl #[.pointer (some ⟨g, 0, none⟩)] (by rfl) rfl rfl (by (try simp only [List.map_toArray, List.map_cons, List.map_nil]); first | done | rfl) ?_
 with_reducible refine (zbH g _ _ HG.out HI.out HB.out).mono ?_
 rintro e_ w15 ⟨rfl, hi, hb, hk⟩
 refine ⟨_, rfl, ?_⟩
 replace RP := aS (z5g HI.out RP.out hk)
 replace RQ := aS (z5g HI.out RQ.out hk)
 replace BX := aS (zu.blk hk BX.out NX.out (by simp))
 replace HI := aS hi
 replace HB := aS hb
 clear hi hb hk
 refine hK.out _ _ ((za BX.out 4).trans rfl) (fun hHeld => ?_)
 clear hK K
 refine xY (a' := ?_) ?_ ?_
 rotate_left
 ·show Act.put _ (some 69) _ = _
  simp only [Act.put, List.setIfInBounds_toArray, List.set_cons_zero, List.set_cons_succ, yh, yQ]
  rfl
 refine z0Z (i := 4) (N := some 70) (mk 8 31) rfl rfl (z0k HT_.out (by kernel_rfl)) (by decide) (fun K hK => ?_)
 refine z0Y (w1 := ?_) (v := ?_) (by rfl) rfl ?_ ?_
 rotate_left 2
 ·go_simp
  constructor
  ·rfl
  ·rfl
 refine hK.out _ _ ((za (zZ BX.out _) 4).trans rfl) (fun hHeld => ?_)
 clear hK K
 refine xY (a' := ?_) ?_ ?_
 rotate_left
 ·show Act.put _ (some 70) _ = _
  simp only [Act.put, List.setIfInBounds_toArray, List.set_cons_zero, List.set_cons_succ, yh, yQ]
  rfl
 refine z0Z (i := 5) (N := some 71) (mk 8 63) rfl rfl (z0k HT_.out (by kernel_rfl)) (by decide) (fun K hK => ?_)
 refine Kd.z34 k63 w1.heap.size (by rfl) (.tmp 67) (.tmp 70) 48 63 (.agg #[(.int .i64 0), (.int .i64 0), (.int .i64 0), (.int .i64 0), (.int .i64 0), (.bool false), (.slice none 0 0), (.slice none 0 0)]) 96 rfl Tryz.underlying48 z7K rfl (by decide) (by omega) (.slice none 0 0) [] z9c [.int .i64 8, .int .i64 1, .int .i64 0, .int .i64 0, .int .i64 0, .bool false, .slice none 0 0, .slice none 0 0] (fun _ => True) (fun _ => False) rfl rfl (z6o _ _ _ z9c (Kd.z0l _ _ _ _ _) (Kd.z0l _ _ _ _ _)) (fun _ hk => hk.elim) (fun _ _ => trivial) (Kd.z0l _ _ _ _ _) (Below.refl _ _) HB.out.size (by decide) ?_
 intro v_ w16 hR hb hg hat
 replace RP := aS (Kd.z4m RP.out hg (fun _ _ => by simp [Value.ownBlock]))
 replace RQ := aS (Kd.z4m RQ.out hg (fun _ _ => by simp [Value.ownBlock]))
 have hne : some gx ≠ (Value.slice none 0 0).ownBlock := by simp [Value.ownBlock]
 have hng : some g ≠ (Value.slice none 0 0).ownBlock := by simp [Value.ownBlock]
 replace BX := aS (yX BX.out hg hne)
 replace HI := aS (zI.grown HI.out hg hng)
 replace HB := aS (HB.out.trans hb)
 have RI := aS (show Kd.R k63 63 w16 w1.heap.size (fun _ => True) v_ [z9c] from hR)
 clear hb hg hat hne hng hR
 obtain ⟨Ai, ci, rfl⟩ := Kd.zB RI.out
 refine hK.out _ _ ((za BX.out 4).trans rfl) (fun hHeld => ?_)
 clear hK K
 refine xY (a' := ?_) ?_ ?_
 rotate_left
 ·show Act.put _ (some 71) _ = _
  simp only [Act.put, List.setIfInBounds_toArray, List.set_cons_zero, List.set_cons_succ, yh, yQ]
  rfl
 refine pv 6 72 (mk 8 127) ?_
 refine z6T (i := 7) (N := none) (mk 8 255) rfl rfl (z0k HT_.out (by kernel_rfl)) (by decide) (fun K hK => ?_)
 have hs := (za BX.out 4).trans rfl
 have hf := zn BX.out 4
 refine z1Z (w1 := ?_) (by rfl) rfl ?_ ?_
 rotate_left
 ·go_simp
  rfl
 refine hK.out _ _ ?_
 clear hK K hs hf hHeld
 replace RP := aS (Kd.z2s RP.out BX.out (by decide) 4 (.slice Ai 1 ci))
 replace RQ := aS (Kd.z2s RQ.out BX.out (by decide) 4 (.slice Ai 1 ci))
 replace RI := aS (Kd.z2s RI.out BX.out (by decide) 4 (.slice Ai 1 ci))
 replace HI := aS (zI.far HI.out (p := ⟨gx, 4, none⟩) (Ne.symm NX.out) (.slice Ai 1 ci))
 replace HB := aS (zG (j := 4) (v := .slice Ai 1 ci) HB.out ZX.out)
 replace BX := aS (yv BX.out 4 (.slice Ai 1 ci) rfl)
 generalize World.setCell _ ⟨gx, 4, none⟩ (.slice Ai 1 ci) = w17 at RP RQ RI HI HB BX ⊢
 refine z1U (z1L HT_.out (by kernel_rfl)) ?_
 clear HT_ HW_
 go_wp2
 rw [rounds_succ]
 obtain ⟨Az, cz, hz, -⟩ := HI.out
 have z2 := z0s hz
 clear hz
 go_wp2
 clear z2
 replace RP := aS (Kd.xu RP.out)
 replace RQ := aS (Kd.xu RQ.out)
 replace RI := aS (Kd.xu RI.out)
 replace HI := aS HI.out.drew
 replace HB := aS (zD HB.out)
 replace BX := aS (yb BX.out)
 refine z16 (n := 8) (S := fun w' => w'.cell? ⟨gx, 4, none⟩ = some (.slice Ai 1 ci)) (ds := [7]) (mk 8 0) (by kernel_rfl) rfl (by kernel_rfl) ((za BX.out 4).trans rfl) (fun hHeld => ?_)
 refine z0K z5K z4W (fun HT_ HW_ => ?_)
 generalize World.drew _ = w18 at RP RQ RI HI HB BX hHeld ⊢
 refine pv 0 66 (mk 8 1) ?_
 refine pv 2 68 (mk 8 5) ?_
 refine tv 1 67 (mk 8 7) hHeld ?_
 refine z0Z (i := 3) (N := some 69) (mk 8 15) rfl rfl (z0k HT_.out (by kernel_rfl)) (by decide) (fun K hK => ?_)
 refine z1C Tryz.func64 (by kernel_rfl) rfl #[.pointer (some ⟨g, 0, none⟩)] (by rfl) rfl rfl (by (try simp only [List.map_toArray, List.map_cons, List.map_nil]); first | done | rfl) ?_
 with_reducible refine (zbJ g _ _ HG.out HI.out HB.out).mono ?_
 rintro e_ w19 ⟨rfl, hi, hb, hk⟩
 refine ⟨_, rfl, ?_⟩
 replace RP := aS (z5g HI.out RP.out hk)
 replace RQ := aS (z5g HI.out RQ.out hk)
 replace RI := aS (z5g HI.out RI.out hk)
 replace BX := aS (zu.blk hk BX.out NX.out (by simp))
 replace HI := aS hi
 replace HB := aS hb
 clear hi hb hk
 refine hK.out _ _ ((za BX.out 4).trans rfl) (fun hHeld => ?_)
 clear hK K
 refine xY (a' := ?_) ?_ ?_
 rotate_left
 ·show Act.put _ (some 69) _ = _
  simp only [Act.put, List.setIfInBounds_toArray, List.set_cons_zero, List.set_cons_succ, yh, yQ]
  rfl
 refine z0Z (i := 4) (N := some 70) (mk 8 31) rfl rfl (z0k HT_.out (by kernel_rfl)) (by decide) (fun K hK => ?_)
 refine z0Y (w1 := ?_) (v := ?_) (by rfl) rfl ?_ ?_
 rotate_left 2
 ·go_simp
  constructor
  ·rfl
  ·rfl
 refine hK.out _ _ ((za (zZ BX.out _) 4).trans rfl) (fun hHeld => ?_)
 clear hK K
 refine xY (a' := ?_) ?_ ?_
 rotate_left
 ·show Act.put _ (some 70) _ = _
  simp only [Act.put, List.setIfInBounds_toArray, List.set_cons_zero, List.set_cons_succ, yh, yQ]
  rfl
 refine z0Z (i := 5) (N := some 71) (mk 8 63) rfl rfl (z0k HT_.out (by kernel_rfl)) (by decide) (fun K hK => ?_)
 refine Kd.z34 k63 w1.heap.size (by rfl) (.tmp 67) (.tmp 70) 48 63 (.agg #[(.int .i64 0), (.int .i64 0), (.int .i64 0), (.int .i64 0), (.int .i64 0), (.bool false), (.slice none 0 0), (.slice none 0 0)]) 96 rfl Tryz.underlying48 z7K rfl (by decide) (by omega) (.slice Ai 1 ci) [z9c] zbI [.int .i64 26, .int .i64 1, .int .i64 0, .int .i64 0, .int .i64 0, .bool false, .slice none 0 0, .slice none 0 0] (fun _ => True) (fun _ => False) rfl rfl (z6o _ _ _ zbI (Kd.z0l _ _ _ _ _) (Kd.z0l _ _ _ _ _)) (fun _ hk => hk.elim) (fun _ _ => trivial) RI.out (Below.refl _ _) HB.out.size (by decide) ?_
 intro v_ w20 hR hb hg hat
 replace RP := aS (Kd.z9N RP.out RI.out (by decide) hg)
 replace RQ := aS (Kd.z9N RQ.out RI.out (by decide) hg)
 have hne := Kd.z3f RI.out BX.out (by decide)
 obtain ⟨_, _, hz, -⟩ := HI.out
 have hng := Kd.z3f RI.out hz (by decide)
 clear hz
 replace BX := aS (yX BX.out hg hne)
 replace HI := aS (zI.grown HI.out hg hng)
 replace HB := aS (HB.out.trans hb)
 replace RI := aS (show Kd.R k63 63 w20 w1.heap.size (fun _ => True) v_ [z9c, zbI] from hR)
 clear hb hg hat hne hng hR
 obtain ⟨Aj, cj, rfl⟩ := Kd.zB RI.out
 refine hK.out _ _ ((za BX.out 4).trans rfl) (fun hHeld => ?_)
 clear hK K
 refine xY (a' := ?_) ?_ ?_
 rotate_left
 ·show Act.put _ (some 71) _ = _
  simp only [Act.put, List.setIfInBounds_toArray, List.set_cons_zero, List.set_cons_succ, yh, yQ]
  rfl
 refine pv 6 72 (mk 8 127) ?_
 refine z6T (i := 7) (N := none) (mk 8 255) rfl rfl (z0k HT_.out (by kernel_rfl)) (by decide) (fun K hK => ?_)
 have hs := (za BX.out 4).trans rfl
 have hf := zn BX.out 4
 refine z1Z (w1 := ?_) (by rfl) rfl ?_ ?_
 rotate_left
 ·go_simp
  rfl
 refine hK.out _ _ ?_
 clear hK K hs hf hHeld
 replace RP := aS (Kd.z2s RP.out BX.out (by decide) 4 (.slice Aj 2 cj))
 replace RQ := aS (Kd.z2s RQ.out BX.out (by decide) 4 (.slice Aj 2 cj))
 replace RI := aS (Kd.z2s RI.out BX.out (by decide) 4 (.slice Aj 2 cj))
 replace HI := aS (zI.far HI.out (p := ⟨gx, 4, none⟩) (Ne.symm NX.out) (.slice Aj 2 cj))
 replace HB := aS (zG (j := 4) (v := .slice Aj 2 cj) HB.out ZX.out)
 replace BX := aS (yv BX.out 4 (.slice Aj 2 cj) rfl)
 generalize World.setCell _ ⟨gx, 4, none⟩ (.slice Aj 2 cj) = w21 at RP RQ RI HI HB BX ⊢
 refine z1U (z1L HT_.out (by kernel_rfl)) ?_
 clear HT_ HW_
 go_wp2
 rw [rounds_succ]
 have x0 := (za BX.out 0).trans rfl
 have x1 := (za BX.out 1).trans rfl
 have x2 := (za BX.out 2).trans rfl
 have x3 := (za BX.out 3).trans rfl
 have x4 := (za BX.out 4).trans rfl
 go_wp2_with (at_builtin; refine Kd.z0C k50 w1.heap.size rfl (.tmp 73) (.tmp 75) 22 50 (.agg #[.string ⟨#[]⟩, .slice none 0 0, .slice none 0 0, .int .i64 0, .slice none 0 0]) 96 rfl Tryz.underlying22 z7J rfl (by decide) (by omega) (.slice none 0 0) [] sqR [.string ⟨#[102]⟩, .slice ARP 1 cRP, .slice ARQ 1 cRQ, .int .i64 2, .slice Aj 2 cj] (fun _ => True) (fun _ => True) rfl rfl (z6n _ _ _ sqR RP.out RQ.out RI.out) (fun _ _ => ⟨trivial, by simp [Value.ownBlock]⟩) (fun _ _ => trivial) (Kd.z0l _ _ _ _ _) (Below.refl _ _) HB.out.size (by decide) ?_)
 clear x0 x1 x2 x3 x4
 intro v_ wy hR hb hg hat
 have RL := aS (show Kd.R k50 50 wy w1.heap.size (fun _ => True) v_ [sqR] from hR)
 replace HI := aS (zI.grown HI.out hg (by simp [Value.ownBlock]))
 replace HB := aS (HB.out.trans hb)
 clear hb hg hat hR RP RQ RI BX NX ZX
 obtain ⟨Al, cl, rfl⟩ := Kd.zB RL.out
 go_wp2
 rw [rounds_succ]
 obtain ⟨Az, cz, hz, -⟩ := HI.out
 have z2 := z0s hz
 clear hz
 go_wp2
 clear z2
 obtain ⟨Az, cz, hz, -⟩ := HI.out
 have BG := aS hz
 clear hz HI
 go_region_held3 (fun w' => w'.cell? ⟨g, 1, none⟩ = some (.int .i64 17)) ((first | assumption | exact (za BG.out 1).trans rfl)) ((first
  | (go_at_call 45; (with_reducible refine (HS.out _ (tb HB1 (bl HB))).mono ?_); rintro e_ wn ⟨rfl, ⟨nd, rfl⟩⟩)
  | (go_at_call 39; (with_reducible refine (xT 9 [] 194 [132, 3] (by kernel_rfl) w1 _ _ (bl HB) (Kd.z0l _ _ _ _ _)).mono ?_); rintro e_ wn ⟨vn, rfl, hR, hb⟩; replace BG := aS (hb.2 _ _ 104 (by decide) (bk BG)); replace RL := aS (zcC (by (with_reducible repeat (first | apply Kd.yK | apply Kd.xu)); exact RL.out) hb); replace HB := aS hb.1; have RN := aS hR; obtain ⟨g2, c2, hv, -⟩ := Kd.z0M hR (by decide); replace hv : vn = .slice (some ⟨g2, 0, none⟩) 2 c2 := hv; subst hv; clear hb hR)
  | (go_at_call 65; (with_reducible refine (z95 ab (ao + 17) g2 0 none none (c - 17) c2 132 3 _ ?e1 ?e2 ?e3 ?e4).mono ?_); (case e1 => exact ze (tb HB1 (bl HB)) HA.out.1); (case e2 => exact ze (tb HB1 (bl HB)) HA.out.2); (case e3 => exact (Kd.z7l (0 : Int) RN.out 0 (by decide) (by decide)).1); (case e4 => exact (Kd.z7l (0 : Int) RN.out 1 (by decide) (by decide)).1); rintro e_ wo ⟨rfl, ⟨nd, rfl⟩⟩)
  | fail))
 go_wp2_with fail
 have hC := (Kd.zz RL.out).2
 have HK : Aside0 (∀ W, Below wn.heap.size wn W → Calls Tryz.prog 12 #[.slice Al 1 cl] W fun e w' => e = .returned (.tuple #[.int .i64 0, .int .i64 0, .int .i64 0]) ∧ Below W.heap.size W w') := ⟨fun W hb => za2 Al cl W ((HG.out.below HB.out).below hb) (Kd.zK hC.2 hb) hC.1⟩
 clear hC
 (with_reducible refine (HK.out _ ?side1).mono ?_)
 case side1 => repeat (first | exact Below.refl _ _ | apply zd | apply zD)
 rintro e_ wv ⟨rfl, hb⟩
 have HZ := aS hb
 clear hb
 go_wp2
 refine bodyPost_ret (v := .tuple #[.slice Al 1 cl, .int .i64 0, .int .i64 0]) (by simp [results, Tryz.results22, go_sem]) rfl ⟨_, rfl, ?_, ?_⟩
 ·refine Kd.zL (Kd.zU ?_ HZ.out) HB1.out.size
  (with_reducible repeat (first | apply Kd.yK | apply Kd.xu))
  exact RL.out
 ·exact tb HB1 (bs_ (bl HB) HZ.out)
theorem zaO (A : Option Addr) (c : Nat) (w : World) (hG : GW w) (hr : Kd.C (Kd.int .u8) w A 19 yj) (hc : 19 ≤ c) :
 Calls Tryz.prog 22 #[.slice A 19 c] w fun e w' => ∃ v, e = .returned (.tuple #[v, .int .i64 0, .int .i64 0]) ∧ Kd.R k50 50 w' w.heap.size (fun _ => True) v [sqR] ∧ Below w.heap.size w w' := by
 obtain ⟨⟨ab, ao, al⟩, rfl, -⟩ := (Kd.xv (enc := Value.int .u8) (d := (0 : Int)) (h1 := fun _ => rfl) hr).2.2 (by decide)
 exact zaN ab ao al c w hG hr hc
def z1A.f (l : List Int) : Option (List S50 × Int × Int) := if l = yj then some ([sqR], 0, 0) else none
theorem z1A.calls (A0 : Option Addr) (c0 : Nat) (l0 : List Int) (r1 : List S50) (r2 r3 : Int) (w : World) (hG : GW w) (hr0 : Kd.C (Kd.int .u8) w A0 l0.length l0) (hc0 : l0.length ≤ c0) (h : z1A.f l0 = some (r1, r2, r3)) :
 Calls Tryz.prog 22 #[.slice A0 l0.length c0] w fun e w' => ∃ v0_ : Value, e = .returned (.tuple #[v0_, .int .i64 r2, .int .i64 r3]) ∧ Kd.R k50 50 w' w.heap.size (fun _ => True) v0_ r1 ∧ Below w.heap.size w w' := by
 unfold z1A.f at h
 by_cases hs : l0 = yj
 ·rw [if_pos hs] at h
  simp only [Option.some.injEq, Prod.mk.injEq] at h
  obtain ⟨rfl, rfl, rfl⟩ := h
  subst hs
  exact zaO A0 c0 w hG hr0 hc0
 ·rw [if_neg hs] at h
  cases h
end
end
theorem zc4 (k : Int) (A B : Option Addr) (c d : Nat) (l : List Int) (w : World) (hr : Kd.C (Kd.int .i64) w A l.length l) (hq : Kd.C (Kd.int .i64) w B l.length l) :
 Calls Tryz.prog 101 #[.agg #[.int .i64 k, .slice A l.length c], .agg #[.int .i64 k, .slice B l.length d]] w fun e w' => e = .returned (.bool true) ∧ Below w.heap.size w w' := by
 have hu115 := Tryz.underlying115
 have HB := hR w
 have HR := aS hr
 have HQ := aS hq
 have HL := aS (Kd.z2k hr)
 clear hr hq
 go_enter Tryz.func101, Tryz.ntmps101
 go_wp2_with (first | ((with_reducible refine zq (N := 2) rfl ?_); refine bx (N := 2) (cs := #[.int .i64 k, .slice A l.length c]) (t := 115) ?_; intro gi hg w1 hbox hb; have BKi := aS hbox; replace HB := aS (bs_ HB.out hb); clear hg hb hbox) | ((with_reducible refine zq (N := 3) rfl ?_); refine bx (N := 3) (cs := #[.int .i64 k, .slice B l.length d]) (t := 115) ?_; intro gj hg w2 hbox hb; have BKj := aS hbox; replace BKi := aS (zf BKi.out hb); obtain ⟨x0, x1⟩ := z2y BKi.out; obtain ⟨y0, y1⟩ := z2y BKj.out; replace HB := aS (bs_ HB.out hb); clear hg hb hbox))
 go_loopg [5] (l.length + 1) (fun kq v3 w' => ∃ j : Nat, v3 = .int .i64 (j : Int) ∧ Aside0 (kq + j = l.length + 1 ∧ j ≤ l.length) ∧ Aside0 (Below w.heap.size w w') ∧ Aside0 (w'.heap[gi]? = some (.cells #[.int .i64 k, .slice A l.length c] 115 (0, 0)) ∧ w'.heap[gj]? = some (.cells #[.int .i64 k, .slice B l.length d] 115 (0, 0))))
 case atStart => exact ⟨0, rfl, ⟨rfl, Nat.zero_le _⟩, ⟨by first | exact HB.out | exact zd HB.out _⟩, ⟨by first | exact BKi.out | exact zf BKi.out (zd (Below.refl _ _) _), by first | exact BKj.out | exact zf BKj.out (zd (Below.refl _ _) _)⟩⟩
 case round =>
  clear HB BKi BKj x0 x1 y0 y1
  obtain ⟨j, rfl, HJ, HB, BK⟩ := hrel
  obtain ⟨x0, x1⟩ := z2y BK.out.1
  obtain ⟨y0, y1⟩ := z2y BK.out.2
  by_cases hj : j < l.length; rotate_left
  ·have c1 : ((j : Int) < (l.length : Int)) = False := eq_false (by omega)
   have c3 : (j < l.length) = False := eq_false hj
   clear hj
   go_wp2
   refine bodyPost_ret (v := .bool true) (by simp [results, Tryz.results101, go_sem]) rfl ⟨rfl, by first | exact HB.out | exact zd HB.out _⟩
  have c1 : (0 ≤ (j : Int)) = True := eq_true (by omega)
  have c2 : ((j : Int) < (l.length : Int)) = True := eq_true (by omega)
  have c3 : (j < l.length) = True := eq_true hj
  have c4 : wrap64 ((j : Int) + 1) = ((j + 1 : Nat) : Int) := by have := HL.out; unfold wrap64; omega
  obtain ⟨ad, rfl, hx⟩ := Kd.zT HR.out (j : Int) (by omega) (by omega)
  obtain ⟨ae, rfl, hy⟩ := Kd.zT HQ.out (j : Int) (by omega) (by omega)
  replace hx := ze HB.out hx
  replace hy := ze HB.out hy
  rw [Int.toNat_natCast] at hx hy
  have HJ2 := aS hj
  generalize rd l (j : Int) = dd at hx hy
  clear hj
  go_wp2
  go_region
  go_wp2
  cases gk with
  | zero => exact absurd HJ.out.1 (by have := HJ2.out; omega)
  | succ k3 =>
   go_roundg k3
   case measure => omega
   case rel => exact ⟨j + 1, by first | rfl | rw [c4], ⟨by have := HJ.out.1; omega, by have := HJ2.out; omega⟩, ⟨by first | exact HB.out | exact zd HB.out _⟩, ⟨by first | exact BK.out.1 | exact zf BK.out.1 (zd (Below.refl _ _) _), by first | exact BK.out.2 | exact zf BK.out.2 (zd (Below.refl _ _) _)⟩⟩
theorem z3N {w : World} {g : Nat} {a0 a1 a2 a3 : Value} {t : TypeId} (h : w.heap[g]? = some (.cells #[a0, a1, a2, a3] t (0, 0))) : w.cell? ⟨g, 0, none⟩ = some a0 ∧ w.cell? ⟨g, 1, none⟩ = some a1 ∧ w.cell? ⟨g, 2, none⟩ = some a2 ∧ w.cell? ⟨g, 3, none⟩ = some a3 :=
 ⟨(za h 0).trans rfl, (za h 1).trans rfl, (za h 2).trans rfl, (za h 3).trans rfl⟩
theorem zdb (s : Int) (g : Bool) (A1 A2 B1 B2 : Option Addr) (c1 c2 d1 d2 : Nat) (u v : List Int) (w : World) (h1 : Kd.C (Kd.int .u32) w A1 u.length u) (h2 : Kd.C (Kd.int .u32) w A2 v.length v) (q1 : Kd.C (Kd.int .u32) w B1 u.length u) (q2 : Kd.C (Kd.int .u32) w B2 v.length v) :
 Calls Tryz.prog 37 #[.agg #[.int .i64 s, .bool g, .slice A1 u.length c1, .slice A2 v.length c2], .agg #[.int .i64 s, .bool g, .slice B1 u.length d1, .slice B2 v.length d2]] w fun e w' => e = .returned (.bool true) ∧ Below w.heap.size w w' := by
 have hu61 := Tryz.underlying61
 have HB := hR w
 have HU := aS h1
 have HU2 := aS q1
 have HV := aS h2
 have HV2 := aS q2
 have HLu := aS (Kd.z2k h1)
 have HLv := aS (Kd.z2k h2)
 clear h1 h2 q1 q2
 go_enter Tryz.func37, Tryz.ntmps37
 go_wp2_with (first | ((with_reducible refine zq (N := 2) rfl ?_); refine bx (N := 2) (cs := #[.int .i64 s, .bool g, .slice A1 u.length c1, .slice A2 v.length c2]) (t := 61) ?_; intro gi hg w1 hbox hb; have BKi := aS hbox; replace HB := aS (bs_ HB.out hb); clear hg hb hbox) | ((with_reducible refine zq (N := 3) rfl ?_); refine bx (N := 3) (cs := #[.int .i64 s, .bool g, .slice B1 u.length d1, .slice B2 v.length d2]) (t := 61) ?_; intro gj hg w2 hbox hb; have BK := aS (And.intro (zf BKi.out hb) hbox); obtain ⟨x0, x1, x2, x3⟩ := z3N BK.out.1; obtain ⟨y0, y1, y2, y3⟩ := z3N BK.out.2; replace HB := aS (bs_ HB.out hb); clear hg hb hbox BKi))
 try (go_region; go_wp2)
 go_loopg [40] (u.length + 1) (fun kq v3 w' => ∃ j : Nat, v3 = .int .i64 (j : Int) ∧ Aside0 (kq + j = u.length + 1 ∧ j ≤ u.length) ∧ Aside0 (Below w.heap.size w w') ∧ Aside0 (w'.heap[gi]? = some (.cells #[.int .i64 s, .bool g, .slice A1 u.length c1, .slice A2 v.length c2] 61 (0, 0)) ∧ w'.heap[gj]? = some (.cells #[.int .i64 s, .bool g, .slice B1 u.length d1, .slice B2 v.length d2] 61 (0, 0))))
 case atStart => exact ⟨0, rfl, ⟨rfl, Nat.zero_le _⟩, ⟨by first | exact HB.out | exact zd HB.out _⟩, ⟨by first | exact BK.out.1 | exact zf BK.out.1 (zd (Below.refl _ _) _), by first | exact BK.out.2 | exact zf BK.out.2 (zd (Below.refl _ _) _)⟩⟩
 case round =>
  clear HB BK x0 x1 x2 x3 y0 y1 y2 y3
  obtain ⟨j, rfl, HJ, HB, BK⟩ := hrel
  obtain ⟨x0, x1, x2, x3⟩ := z3N BK.out.1
  obtain ⟨y0, y1, y2, y3⟩ := z3N BK.out.2
  by_cases hj : j < u.length
  ·have e1 : (0 ≤ (j : Int)) = True := eq_true (by omega)
   have e2 : ((j : Int) < (u.length : Int)) = True := eq_true (by omega)
   have e3 : (j < u.length) = True := eq_true hj
   have e4 : wrap64 ((j : Int) + 1) = ((j + 1 : Nat) : Int) := by have := HLu.out; unfold wrap64; omega
   obtain ⟨ad, rfl, hx⟩ := Kd.zT HU.out (j : Int) (by omega) (by omega)
   obtain ⟨ae, rfl, hy⟩ := Kd.zT HU2.out (j : Int) (by omega) (by omega)
   replace hx := ze HB.out hx
   replace hy := ze HB.out hy
   rw [Int.toNat_natCast] at hx hy
   have HJ2 := aS hj
   generalize rd u (j : Int) = dd at hx hy
   clear hj
   go_wp2
   go_region
   go_wp2
   cases gk with
   | zero => exact absurd HJ.out.1 (by have := HJ2.out; omega)
   | succ k3 =>
    go_roundg k3
    case measure => omega
    case rel => exact ⟨j + 1, by first | rfl | rw [e4], ⟨by have := HJ.out.1; omega, by have := HJ2.out; omega⟩, ⟨by first | exact HB.out | exact zd HB.out _⟩, ⟨by first | exact BK.out.1 | exact zf BK.out.1 (zd (Below.refl _ _) _), by first | exact BK.out.2 | exact zf BK.out.2 (zd (Below.refl _ _) _)⟩⟩
  have e1 : ((j : Int) < (u.length : Int)) = False := eq_false (by omega)
  have e3 : (j < u.length) = False := eq_false hj
  clear hj
  go_wp2
  go_loopg [58] (v.length + 1) (fun kq v3 w' => ∃ j : Nat, v3 = .int .i64 (j : Int) ∧ Aside0 (kq + j = v.length + 1 ∧ j ≤ v.length) ∧ Aside0 (Below w.heap.size w w') ∧ Aside0 (w'.heap[gi]? = some (.cells #[.int .i64 s, .bool g, .slice A1 u.length c1, .slice A2 v.length c2] 61 (0, 0)) ∧ w'.heap[gj]? = some (.cells #[.int .i64 s, .bool g, .slice B1 u.length d1, .slice B2 v.length d2] 61 (0, 0))))
  case atStart => exact ⟨0, rfl, ⟨rfl, Nat.zero_le _⟩, ⟨by first | exact HB.out | exact zd HB.out _⟩, ⟨by first | exact BK.out.1 | exact zf BK.out.1 (zd (Below.refl _ _) _), by first | exact BK.out.2 | exact zf BK.out.2 (zd (Below.refl _ _) _)⟩⟩
  case round =>
   clear HB BK HJ x0 x1 x2 x3 y0 y1 y2 y3
   obtain ⟨j, rfl, HJ, HB, BK⟩ := hrel
   obtain ⟨x0, x1, x2, x3⟩ := z3N BK.out.1
   obtain ⟨y0, y1, y2, y3⟩ := z3N BK.out.2
   by_cases hj : j < v.length; rotate_left
   ·have e1 : ((j : Int) < (v.length : Int)) = False := eq_false (by omega)
    have e3 : (j < v.length) = False := eq_false hj
    clear hj
    go_wp2
    refine bodyPost_ret (v := .bool true) (by simp [results, Tryz.results37, go_sem]) rfl ⟨rfl, by first | exact HB.out | exact zd HB.out _⟩
   have e1 : (0 ≤ (j : Int)) = True := eq_true (by omega)
   have e2 : ((j : Int) < (v.length : Int)) = True := eq_true (by omega)
   have e3 : (j < v.length) = True := eq_true hj
   have e4 : wrap64 ((j : Int) + 1) = ((j + 1 : Nat) : Int) := by have := HLv.out; unfold wrap64; omega
   obtain ⟨ad, rfl, hx⟩ := Kd.zT HV.out (j : Int) (by omega) (by omega)
   obtain ⟨ae, rfl, hy⟩ := Kd.zT HV2.out (j : Int) (by omega) (by omega)
   replace hx := ze HB.out hx
   replace hy := ze HB.out hy
   rw [Int.toNat_natCast] at hx hy
   have HJ2 := aS hj
   generalize rd v (j : Int) = dd at hx hy
   clear hj
   go_wp2
   go_region
   go_wp2
   cases gk with
   | zero => exact absurd HJ.out.1 (by have := HJ2.out; omega)
   | succ k3 =>
    go_roundg k3
    case measure => omega
    case rel => exact ⟨j + 1, by first | rfl | rw [e4], ⟨by have := HJ.out.1; omega, by have := HJ2.out; omega⟩, ⟨by first | exact HB.out | exact zd HB.out _⟩, ⟨by first | exact BK.out.1 | exact zf BK.out.1 (zd (Below.refl _ _) _), by first | exact BK.out.2 | exact zf BK.out.2 (zd (Below.refl _ _) _)⟩⟩
theorem zb1 (A B : Option Addr) (c d : Nat) (l : List xx) (w : World) (hr : Kd.C xC w A l.length l) (hq : Kd.C xC w B l.length l) :
 Calls Tryz.prog 36 #[.slice A l.length c, .slice B l.length d] w fun e w' => e = .returned (.bool true) ∧ Below w.heap.size w w' := by
 have HB := hR w
 have HR := aS hr
 have HQ := aS hq
 have HL := aS (Kd.z2k hr)
 clear hr hq
 go_enter Tryz.func36, Tryz.ntmps36
 go_wp2
 go_loopg [13] (l.length + 1) (fun kq v3 w' => ∃ j : Nat, v3 = .int .i64 (j : Int) ∧ Aside0 (kq + j = l.length + 1 ∧ j ≤ l.length) ∧ Aside0 (Below w.heap.size w w'))
 case atStart => exact ⟨0, rfl, ⟨rfl, Nat.zero_le _⟩, ⟨by first | exact HB.out | exact zd HB.out _⟩⟩
 case round =>
  clear HB
  obtain ⟨j, rfl, HJ, HB⟩ := hrel
  by_cases hj : j < l.length; rotate_left
  ·have e1 : ((j : Int) < (l.length : Int)) = False := eq_false (by omega)
   have e3 : (j < l.length) = False := eq_false hj
   clear hj
   go_wp2
   refine bodyPost_ret (v := .bool true) (by simp [results, Tryz.results36, go_sem]) rfl ⟨rfl, by first | exact HB.out | exact zd HB.out _⟩
  have e1 : (0 ≤ (j : Int)) = True := eq_true (by omega)
  have e2 : ((j : Int) < (l.length : Int)) = True := eq_true (by omega)
  have e3 : (j < l.length) = True := eq_true hj
  have e4 : wrap64 ((j : Int) + 1) = ((j + 1 : Nat) : Int) := by have := HL.out; unfold wrap64; omega
  obtain ⟨ad, A1, c1, rfl, x0, x1, _, g1⟩ := z2b HR.out (j : Int) (by omega) (by omega)
  obtain ⟨ae, B1, d1, rfl, y0, y1, _, q1⟩ := z2b HQ.out (j : Int) (by omega) (by omega)
  rw [Int.toNat_natCast] at x0 x1 y0 y1
  have HJ2 := aS hj
  generalize yg l (j : Int) = t at x0 x1 y0 y1 g1 q1
  have M : Aside0 (∀ W, Below w.heap.size w W → Calls Tryz.prog 101 #[.agg #[.int .i64 t.f0, .slice A1 t.f1.length c1], .agg #[.int .i64 t.f0, .slice B1 t.f1.length d1]] W fun e w' => e = .returned (.bool true) ∧ Below W.heap.size W w') := ⟨fun W hb => zc4 _ _ _ _ _ _ W (Kd.zK g1 hb) (Kd.zK q1 hb)⟩
  have X : Aside0 (w.cell? (ad.add (j * 2)) = some (.int .i64 t.f0) ∧ w.cell? ⟨(ad.add (j * 2)).block, (ad.add (j * 2)).off + 1, none⟩ = some (.slice A1 t.f1.length c1) ∧ w.cell? (ae.add (j * 2)) = some (.int .i64 t.f0) ∧ w.cell? ⟨(ae.add (j * 2)).block, (ae.add (j * 2)).off + 1, none⟩ = some (.slice B1 t.f1.length d1)) := ⟨x0, x1, y0, y1⟩
  clear hj x0 x1 y0 y1 g1 q1
  go_wp2
  go_region_held3 (fun w' => w'.cell? (ad.add (j * 2)) = some (.int .i64 t.f0) ∧ w'.cell? ⟨(ad.add (j * 2)).block, (ad.add (j * 2)).off + 1, none⟩ = some (.slice A1 t.f1.length c1) ∧ w'.cell? (ae.add (j * 2)) = some (.int .i64 t.f0) ∧ w'.cell? ⟨(ae.add (j * 2)).block, (ae.add (j * 2)).off + 1, none⟩ = some (.slice B1 t.f1.length d1)) ((first | assumption | (have h_ := HB.out; exact ⟨ze (by repeat (first | exact h_ | apply zD | apply zd)) X.out.1, ze (by repeat (first | exact h_ | apply zD | apply zd)) X.out.2.1, ze (by repeat (first | exact h_ | apply zD | apply zd)) X.out.2.2.1, ze (by repeat (first | exact h_ | apply zD | apply zd)) X.out.2.2.2⟩))) ((go_at_call 101; (with_reducible refine (M.out _ ?side1).mono ?_); (case side1 => repeat (first | exact HB.out | apply zD | apply zd)); rintro e w4 ⟨rfl, hb⟩; replace HB := aS (bs_ (by repeat (first | exact HB.out | apply zD | apply zd)) hb); clear hb))
  go_wp2
  cases gk with
  | zero => exact absurd HJ.out.1 (by have := HJ2.out; omega)
  | succ k3 =>
   go_roundg k3
   case measure => omega
   case rel => exact ⟨j + 1, by first | rfl | rw [e4], ⟨by have := HJ.out.1; omega, by have := HJ2.out; omega⟩, ⟨by first | exact HB.out | exact zd HB.out _⟩⟩
theorem zdT {w : World} {g : Nat} {z0 z1 z2 z3 z4 z5 z6 z7 v0 v1 v2 v3 v4 v5 v6 v7 : Value} {t : TypeId} (h : w.heap[g]? = some (.cells #[z0, z1, z2, z3, z4, z5, z6, z7] t (0, 0))) :
 ((((((((w.setCell ⟨g, 0, none⟩ v0).setCell ⟨g, 1, none⟩ v1).setCell ⟨g, 2, none⟩ v2).setCell ⟨g, 3, none⟩ v3).setCell ⟨g, 4, none⟩ v4).setCell ⟨g, 5, none⟩ v5).setCell ⟨g, 6, none⟩ v6).setCell ⟨g, 7, none⟩ v7).heap[g]? = some (.cells #[v0, v1, v2, v3, v4, v5, v6, v7] t (0, 0)) := by
 have h0 := yv (cs' := #[v0, z1, z2, z3, z4, z5, z6, z7]) h 0 v0 rfl
 have h1 := yv (cs' := #[v0, v1, z2, z3, z4, z5, z6, z7]) h0 1 v1 rfl
 have h2 := yv (cs' := #[v0, v1, v2, z3, z4, z5, z6, z7]) h1 2 v2 rfl
 have h3 := yv (cs' := #[v0, v1, v2, v3, z4, z5, z6, z7]) h2 3 v3 rfl
 have h4 := yv (cs' := #[v0, v1, v2, v3, v4, z5, z6, z7]) h3 4 v4 rfl
 have h5 := yv (cs' := #[v0, v1, v2, v3, v4, v5, z6, z7]) h4 5 v5 rfl
 have h6 := yv (cs' := #[v0, v1, v2, v3, v4, v5, v6, z7]) h5 6 v6 rfl
 exact yv (cs' := #[v0, v1, v2, v3, v4, v5, v6, v7]) h6 7 v7 rfl
theorem z9Z {g : Nat} {w W : World} {v0 v1 v2 v3 v4 v5 v6 v7 : Value} (h : Below w.heap.size w W) (hg : w.heap.size ≤ g) :
 Below w.heap.size w ((((((((W.setCell ⟨g, 0, none⟩ v0).setCell ⟨g, 1, none⟩ v1).setCell ⟨g, 2, none⟩ v2).setCell ⟨g, 3, none⟩ v3).setCell ⟨g, 4, none⟩ v4).setCell ⟨g, 5, none⟩ v5).setCell ⟨g, 6, none⟩ v6).setCell ⟨g, 7, none⟩ v7) :=
 zG (zG (zG (zG (zG (zG (zG (zG h hg) hg) hg) hg) hg) hg) hg) hg
theorem z6M {w : World} {p : Addr} {u : Value} {g : Nat} {o : Obj} (hn : g ≠ p.block) (h : w.heap[g]? = some o) : (w.setCell p u).heap[g]? = some o := (Below.heap_setCell w p u g hn).trans h
theorem ze6 {w : World} {g gb : Nat} {o : Obj} {v0 v1 v2 v3 v4 v5 v6 v7 : Value} (hn : g ≠ gb) (h : w.heap[g]? = some o) :
 ((((((((w.setCell ⟨gb, 0, none⟩ v0).setCell ⟨gb, 1, none⟩ v1).setCell ⟨gb, 2, none⟩ v2).setCell ⟨gb, 3, none⟩ v3).setCell ⟨gb, 4, none⟩ v4).setCell ⟨gb, 5, none⟩ v5).setCell ⟨gb, 6, none⟩ v6).setCell ⟨gb, 7, none⟩ v7).heap[g]? = some o :=
 z6M hn (z6M hn (z6M hn (z6M hn (z6M hn (z6M hn (z6M hn (z6M hn h)))))))
theorem zda (A B : Option Addr) (c d : Nat) (l : List S50) (w : World) (hr : Kd.C k50 w A l.length l) (hq : Kd.C k50 w B l.length l) :
 Calls Tryz.prog 15 #[.slice A l.length c, .slice B l.length d] w fun e w' => e = .returned (.bool true) ∧ Below w.heap.size w w' := by
 have hu50 := Tryz.underlying50
 have hu63 := Tryz.underlying63
 have HB := hR w
 have HR := aS hr
 have HQ := aS hq
 have HL := aS (Kd.z2k hr)
 clear hr hq
 go_enter Tryz.func15, Tryz.ntmps15
 go_wp2
 go_loopg [16] (l.length + 1) (fun kq v3 w' => ∃ j : Nat, v3 = .int .i64 (j : Int) ∧ Aside0 (kq + j = l.length + 1 ∧ j ≤ l.length) ∧ Aside0 (Below w.heap.size w w'))
 case atStart => exact ⟨0, rfl, ⟨rfl, Nat.zero_le _⟩, ⟨by first | exact HB.out | exact zd HB.out _⟩⟩
 case round =>
  clear HB
  obtain ⟨j, rfl, HJ, HB⟩ := hrel
  by_cases hj : j < l.length; rotate_left
  ·have e1 : ((j : Int) < (l.length : Int)) = False := eq_false (by omega)
   have e3 : (j < l.length) = False := eq_false hj
   clear hj
   go_wp2
   refine bodyPost_ret (v := .bool true) (by simp [results, Tryz.results15, go_sem]) rfl ⟨rfl, by first | exact HB.out | exact zd HB.out _⟩
  have f1 : (0 ≤ (j : Int)) = True := eq_true (by omega)
  have f2 : ((j : Int) < (l.length : Int)) = True := eq_true (by omega)
  have f3 : (j < l.length) = True := eq_true hj
  have f4 : wrap64 ((j : Int) + 1) = ((j + 1 : Nat) : Int) := by have := HL.out; unfold wrap64; omega
  obtain ⟨ad, A1, c1, A2, c2, A4, c4, rfl, x0, x1, x2, x3, x4, _, a1, _, a2, _, a4⟩ := xW HR.out (j : Int) (by omega) (by omega)
  obtain ⟨ae, B1, d1, B2, d2, B4, d4, rfl, y0, y1, y2, y3, y4, _, b1, _, b2, _, b4⟩ := xW HQ.out (j : Int) (by omega) (by omega)
  rw [Int.toNat_natCast] at x0 x1 x2 x3 x4 y0 y1 y2 y3 y4
  have HF4 := aS f4
  clear f4
  have HJ2 := aS hj
  generalize z8 l (j : Int) = r at x0 x1 x2 x3 x4 y0 y1 y2 y3 y4 a1 a2 a4 b1 b2 b4
  have M1 : Aside0 (∀ W, Below w.heap.size w W → Calls Tryz.prog 36 #[.slice A1 r.f1.length c1, .slice B1 r.f1.length d1] W fun e w' => e = .returned (.bool true) ∧ Below W.heap.size W w') := ⟨fun W hb => zb1 _ _ _ _ _ W (Kd.zK a1 hb) (Kd.zK b1 hb)⟩
  have M2 : Aside0 (∀ W, Below w.heap.size w W → Calls Tryz.prog 36 #[.slice A2 r.f2.length c2, .slice B2 r.f2.length d2] W fun e w' => e = .returned (.bool true) ∧ Below W.heap.size W w') := ⟨fun W hb => zb1 _ _ _ _ _ W (Kd.zK a2 hb) (Kd.zK b2 hb)⟩
  have X : Aside0 (w.cell? (ad.add (j * 5)) = some (.string r.f0) ∧ w.cell? ⟨(ad.add (j * 5)).block, (ad.add (j * 5)).off + 1, none⟩ = some (.slice A1 r.f1.length c1) ∧ w.cell? ⟨(ad.add (j * 5)).block, (ad.add (j * 5)).off + 2, none⟩ = some (.slice A2 r.f2.length c2) ∧ w.cell? ⟨(ad.add (j * 5)).block, (ad.add (j * 5)).off + 3, none⟩ = some (.int .i64 r.f3) ∧ w.cell? ⟨(ad.add (j * 5)).block, (ad.add (j * 5)).off + 4, none⟩ = some (.slice A4 r.f4.length c4) ∧ w.cell? (ae.add (j * 5)) = some (.string r.f0) ∧ w.cell? ⟨(ae.add (j * 5)).block, (ae.add (j * 5)).off + 1, none⟩ = some (.slice B1 r.f1.length d1) ∧ w.cell? ⟨(ae.add (j * 5)).block, (ae.add (j * 5)).off + 2, none⟩ = some (.slice B2 r.f2.length d2) ∧ w.cell? ⟨(ae.add (j * 5)).block, (ae.add (j * 5)).off + 3, none⟩ = some (.int .i64 r.f3) ∧ w.cell? ⟨(ae.add (j * 5)).block, (ae.add (j * 5)).off + 4, none⟩ = some (.slice B4 r.f4.length d4)) := ⟨x0, x1, x2, x3, x4, y0, y1, y2, y3, y4⟩
  have G4 := aS a4
  have Q4 := aS b4
  have L4 := aS (Kd.z2k a4)
  clear hj x0 x1 x2 x3 x4 y0 y1 y2 y3 y4 a1 a2 a4 b1 b2 b4
  go_wp2
  simp only [List.append_eq, List.cons_append, List.nil_append]
  go_region_held3 (fun w' => w'.cell? (ad.add (j * 5)) = some (.string r.f0) ∧ w'.cell? ⟨(ad.add (j * 5)).block, (ad.add (j * 5)).off + 1, none⟩ = some (.slice A1 r.f1.length c1) ∧ w'.cell? ⟨(ad.add (j * 5)).block, (ad.add (j * 5)).off + 2, none⟩ = some (.slice A2 r.f2.length c2) ∧ w'.cell? ⟨(ad.add (j * 5)).block, (ad.add (j * 5)).off + 3, none⟩ = some (.int .i64 r.f3) ∧ w'.cell? ⟨(ad.add (j * 5)).block, (ad.add (j * 5)).off + 4, none⟩ = some (.slice A4 r.f4.length c4) ∧ w'.cell? (ae.add (j * 5)) = some (.string r.f0) ∧ w'.cell? ⟨(ae.add (j * 5)).block, (ae.add (j * 5)).off + 1, none⟩ = some (.slice B1 r.f1.length d1) ∧ w'.cell? ⟨(ae.add (j * 5)).block, (ae.add (j * 5)).off + 2, none⟩ = some (.slice B2 r.f2.length d2) ∧ w'.cell? ⟨(ae.add (j * 5)).block, (ae.add (j * 5)).off + 3, none⟩ = some (.int .i64 r.f3) ∧ w'.cell? ⟨(ae.add (j * 5)).block, (ae.add (j * 5)).off + 4, none⟩ = some (.slice B4 r.f4.length d4)) ((first | assumption | (have h_ := HB.out; exact ⟨ze (by repeat (first | exact h_ | apply zD | apply zd)) X.out.1, ze (by repeat (first | exact h_ | apply zD | apply zd)) X.out.2.1, ze (by repeat (first | exact h_ | apply zD | apply zd)) X.out.2.2.1, ze (by repeat (first | exact h_ | apply zD | apply zd)) X.out.2.2.2.1, ze (by repeat (first | exact h_ | apply zD | apply zd)) X.out.2.2.2.2.1, ze (by repeat (first | exact h_ | apply zD | apply zd)) X.out.2.2.2.2.2.1, ze (by repeat (first | exact h_ | apply zD | apply zd)) X.out.2.2.2.2.2.2.1, ze (by repeat (first | exact h_ | apply zD | apply zd)) X.out.2.2.2.2.2.2.2.1, ze (by repeat (first | exact h_ | apply zD | apply zd)) X.out.2.2.2.2.2.2.2.2.1, ze (by repeat (first | exact h_ | apply zD | apply zd)) X.out.2.2.2.2.2.2.2.2.2⟩))) (((go_at_call 36; (with_reducible first | refine (M1.out _ ?side1).mono ?_ | refine (M2.out _ ?side1).mono ?_); (case side1 => repeat (first | exact HB.out | apply zD | apply zd)); rintro e w4 ⟨rfl, hb⟩; replace HB := aS (bs_ (by repeat (first | exact HB.out | apply zD | apply zd)) hb); clear hb)))
  have x4 := ze HB.out X.out.2.2.2.2.1
  go_wp2
  cases gk with
  | zero => exact absurd HJ.out.1 (by have := HJ2.out; omega)
  | succ k1 =>
   go_loopg [92] (r.f4.length + 1) (fun kq v3 w' => ∃ j2 : Nat, v3 = .int .i64 (j2 : Int) ∧ Aside0 (kq + j2 = r.f4.length + 1 ∧ j2 ≤ r.f4.length) ∧ Aside0 (Below w.heap.size w w'))
   case atStart => exact ⟨0, rfl, ⟨rfl, Nat.zero_le _⟩, ⟨by first | exact HB.out | exact zd HB.out _⟩⟩
   case round =>
    clear HB x4
    obtain ⟨j2, rfl, HI, HB⟩ := hrel
    by_cases hi : j2 < r.f4.length; rotate_left
    ·have e1 : ((j2 : Int) < (r.f4.length : Int)) = False := eq_false (by omega)
     have e3 : (j2 < r.f4.length) = False := eq_false hi
     clear hi
     go_wp2
     go_roundg k1
     case measure => omega
     case rel => exact ⟨j + 1, by first | rfl | rw [HF4.out], ⟨by have := HJ.out.1; omega, by have := HJ2.out; omega⟩, ⟨by first | exact HB.out | exact zd HB.out _⟩⟩
    have e1 : (0 ≤ (j2 : Int)) = True := eq_true (by omega)
    have e2 : ((j2 : Int) < (r.f4.length : Int)) = True := eq_true (by omega)
    have e3 : (j2 < r.f4.length) = True := eq_true hi
    have e4 : wrap64 ((j2 : Int) + 1) = ((j2 + 1 : Nat) : Int) := by have := L4.out; unfold wrap64; omega
    have z0 : 0 ≤ (j2 : Int) := Int.natCast_nonneg _
    have z1 : (j2 : Int) < (r.f4.length : Int) := Int.ofNat_lt.2 hi
    obtain ⟨ai, D6, e6, D7, e7, eA, v0, v1, v2, v3, v4, v5, v6, v7, _, p6, _, p7⟩ := z0j G4.out (j2 : Int) z0 z1
    obtain ⟨aj, E6, g6, E7, g7, eB, u0, u1, u2, u3, u4, u5, u6, u7, _, q6, _, q7⟩ := z0j Q4.out (j2 : Int) z0 z1
    clear z0 z1
    rw [Int.toNat_natCast] at v0 v1 v2 v3 v4 v5 v6 v7 u0 u1 u2 u3 u4 u5 u6 u7
    have HI2 := aS hi
    generalize zb r.f4 (j2 : Int) = s at v0 v1 v2 v3 v4 v5 v6 v7 u0 u1 u2 u3 u4 u5 u6 u7 p6 p7 q6 q7
    subst eA eB
    have M3 : Aside0 (∀ W, Below w.heap.size w W → Calls Tryz.prog 37 #[.agg #[.int .i64 s.f4.f0, .bool s.f4.f1, .slice D6 s.f4.f2.length e6, .slice D7 s.f4.f3.length e7], .agg #[.int .i64 s.f4.f0, .bool s.f4.f1, .slice E6 s.f4.f2.length g6, .slice E7 s.f4.f3.length g7]] W fun e w' => e = .returned (.bool true) ∧ Below W.heap.size W w') := ⟨fun W hb => zdb _ _ _ _ _ _ _ _ _ _ _ _ W (Kd.zK p6 hb) (Kd.zK p7 hb) (Kd.zK q6 hb) (Kd.zK q7 hb)⟩
    have U : Aside0 (w.cell? (aj.add (j2 * 8)) = some (.int .i64 s.f0) ∧ w.cell? ⟨(aj.add (j2 * 8)).block, (aj.add (j2 * 8)).off + 1, none⟩ = some (.int .i64 s.f1) ∧ w.cell? ⟨(aj.add (j2 * 8)).block, (aj.add (j2 * 8)).off + 2, none⟩ = some (.int .i64 s.f2) ∧ w.cell? ⟨(aj.add (j2 * 8)).block, (aj.add (j2 * 8)).off + 3, none⟩ = some (.int .i64 s.f3) ∧ w.cell? ⟨(aj.add (j2 * 8)).block, (aj.add (j2 * 8)).off + 4, none⟩ = some (.int .i64 s.f4.f0) ∧ w.cell? ⟨(aj.add (j2 * 8)).block, (aj.add (j2 * 8)).off + 5, none⟩ = some (.bool s.f4.f1) ∧ w.cell? ⟨(aj.add (j2 * 8)).block, (aj.add (j2 * 8)).off + 6, none⟩ = some (.slice E6 s.f4.f2.length g6) ∧ w.cell? ⟨(aj.add (j2 * 8)).block, (aj.add (j2 * 8)).off + 7, none⟩ = some (.slice E7 s.f4.f3.length g7)) := ⟨u0, u1, u2, u3, u4, u5, u6, u7⟩
    replace v0 := ze HB.out v0
    replace v1 := ze HB.out v1
    replace v2 := ze HB.out v2
    replace v3 := ze HB.out v3
    replace v4 := ze HB.out v4
    replace v5 := ze HB.out v5
    replace v6 := ze HB.out v6
    replace v7 := ze HB.out v7
    clear hi u0 u1 u2 u3 u4 u5 u6 u7 p6 p7 q6 q7
    go_upto_region 11 with ((with_reducible refine zq (N := 7) rfl ?_); (try (refine yq (by rfl) ?_; dsimp only)); refine bx (N := 7) (cs := #[.int .i64 0, .int .i64 0, .int .i64 0, .int .i64 0, .int .i64 0, .bool false, .slice none 0 0, .slice none 0 0]) (t := 63) ?_; intro ga hga wa hbox hb; have BA := aS hbox; have LA := gz hga HB; replace HB := hB_ HB hb; clear hga hb hbox; obtain ⟨hcz_0, hcz_1, hcz_2, hcz_3, hcz_4, hcz_5, hcz_6, hcz_7, hfz_0, hfz_1, hfz_2, hfz_3, hfz_4, hfz_5, hfz_6, hfz_7⟩ := cf8 BA.out)
    refine z2x (fun W => Below w.heap.size w W ∧ W.heap[ga]? = some (.cells #[.int .i64 s.f0, .int .i64 s.f1, .int .i64 s.f2, .int .i64 s.f3, .int .i64 s.f4.f0, .bool s.f4.f1, .slice D6 s.f4.f2.length e6, .slice D7 s.f4.f3.length e7] 63 (0, 0))) ⟨z9Z HB.out LA.out, zdT BA.out⟩ ?_
    clear HB BA hcz_0 hcz_1 hcz_2 hcz_3 hcz_4 hcz_5 hcz_6 hcz_7 hfz_0 hfz_1 hfz_2 hfz_3 hfz_4 hfz_5 hfz_6 hfz_7 v0 v1 v2 v3 v4 v5 v6 v7
    rintro w5 ⟨hB, hA⟩
    have HB := aS hB
    have BA := aS hA
    clear hB hA
    have y4 := ze HB.out X.out.2.2.2.2.2.2.2.2.2
    obtain ⟨u0, u1, u2, u3, u4, u5, u6, u7⟩ := U.out
    replace u0 := ze HB.out u0
    replace u1 := ze HB.out u1
    replace u2 := ze HB.out u2
    replace u3 := ze HB.out u3
    replace u4 := ze HB.out u4
    replace u5 := ze HB.out u5
    replace u6 := ze HB.out u6
    replace u7 := ze HB.out u7
    go_upto_region 12 with ((with_reducible refine zq (N := 8) rfl ?_); (try (refine yq (by rfl) ?_; dsimp only)); refine bx (N := 8) (cs := #[.int .i64 0, .int .i64 0, .int .i64 0, .int .i64 0, .int .i64 0, .bool false, .slice none 0 0, .slice none 0 0]) (t := 63) ?_; intro gb hgb wb hbox hb; have BB := aS hbox; have LB := gz hgb HB; have NE := aS (show ga ≠ gb from hgb ▸ Nat.ne_of_lt (yR BA.out)); replace BA := aS (zf BA.out hb); replace HB := hB_ HB hb; clear hgb hb hbox; obtain ⟨hcz_0, hcz_1, hcz_2, hcz_3, hcz_4, hcz_5, hcz_6, hcz_7, hfz_0, hfz_1, hfz_2, hfz_3, hfz_4, hfz_5, hfz_6, hfz_7⟩ := cf8 BB.out)
    refine z2x (fun W => Below w.heap.size w W ∧ W.heap[ga]? = some (.cells #[.int .i64 s.f0, .int .i64 s.f1, .int .i64 s.f2, .int .i64 s.f3, .int .i64 s.f4.f0, .bool s.f4.f1, .slice D6 s.f4.f2.length e6, .slice D7 s.f4.f3.length e7] 63 (0, 0)) ∧ W.heap[gb]? = some (.cells #[.int .i64 s.f0, .int .i64 s.f1, .int .i64 s.f2, .int .i64 s.f3, .int .i64 s.f4.f0, .bool s.f4.f1, .slice E6 s.f4.f2.length g6, .slice E7 s.f4.f3.length g7] 63 (0, 0))) ⟨z9Z HB.out LB.out, ze6 NE.out BA.out, zdT BB.out⟩ ?_
    clear HB BA BB hcz_0 hcz_1 hcz_2 hcz_3 hcz_4 hcz_5 hcz_6 hcz_7 hfz_0 hfz_1 hfz_2 hfz_3 hfz_4 hfz_5 hfz_6 hfz_7 u0 u1 u2 u3 u4 u5 u6 u7 y4
    rintro w6 ⟨hB, hA, hC⟩
    have HB := aS hB
    obtain ⟨v0, v1, v2, v3, v4, v5, v6, v7⟩ := xo hA
    obtain ⟨u0, u1, u2, u3, u4, u5, u6, u7⟩ := xo hC
    clear hB hA hC
    go_wp2_with (go_at_call 37; (with_reducible refine (M3.out _ ?side1).mono ?_); (case side1 => repeat (first | exact HB.out | apply zD | apply zd)); rintro e w7 ⟨rfl, hb⟩; replace HB := hB_ HB hb; clear hb v0 v1 v2 v3 v4 v5 v6 v7 u0 u1 u2 u3 u4 u5 u6 u7)
    cases gk with
    | zero => exact absurd HI.out.1 (by have := HI2.out; omega)
    | succ k3 =>
     go_roundg k3
     case measure => omega
     case rel => exact ⟨j2 + 1, by first | rfl | rw [e4], ⟨by have := HI.out.1; omega, by have := HI2.out; omega⟩, ⟨by first | exact HB.out | exact zd HB.out _⟩⟩
def xQ.f (l m : List S50) : Option Bool := if eqL zbw l m = true then some true else none
theorem xQ.calls (A0 : Option Addr) (c0 : Nat) (l0 : List S50) (A1 : Option Addr) (c1 : Nat) (l1 : List S50) (r : Bool) (w : World) (hr0 : Kd.C k50 w A0 l0.length l0) (hc0 : l0.length ≤ c0) (hr1 : Kd.C k50 w A1 l1.length l1) (hc1 : l1.length ≤ c1) (h : xQ.f l0 l1 = some r) :
 Calls Tryz.prog 15 #[.slice A0 l0.length c0, .slice A1 l1.length c1] w fun e w' => e = .returned (.bool r) ∧ Below w.heap.size w w' := by
 unfold xQ.f at h
 split at h
 ·rename_i h2
  obtain rfl := z3P z8v _ _ h2
  obtain rfl := sI h
  exact zda _ _ _ _ _ _ hr0 hr1
 ·cases h
end Go.Proofs.QP

