import Derived.Test.YtbkknoipgmlcmaaGreatDoorQCM36
set_option linter.unusedVariables false
set_option linter.unusedSimpArgs false
set_option maxHeartbeats 8000000
set_option maxRecDepth 100000
namespace Go.Proofs.YtbkknoipgmlcmaaGreatDoor.P
open Go.RowKit Go.Proofs.YtbkknoipgmlcmaaGreatDoorW.PrintWords Go.Proofs.YtbkknoipgmlcmaaGreatDoorW.PrintLast Go.Proofs.YtbkknoipgmlcmaaGreatDoorW.PrintMore
open Go.Proofs.FX
theorem put8 {w : World} {g : Nat} {z0 z1 z2 z3 z4 z5 z6 z7 v0 v1 v2 v3 v4 v5 v6 v7 : Value} {t : TypeId} (h : w.heap[g]? = some (.cells #[z0, z1, z2, z3, z4, z5, z6, z7] t (0, 0))) :
 ((((((((w.setCell ⟨g, 0, none⟩ v0).setCell ⟨g, 1, none⟩ v1).setCell ⟨g, 2, none⟩ v2).setCell ⟨g, 3, none⟩ v3).setCell ⟨g, 4, none⟩ v4).setCell ⟨g, 5, none⟩ v5).setCell ⟨g, 6, none⟩ v6).setCell ⟨g, 7, none⟩ v7).heap[g]? = some (.cells #[v0, v1, v2, v3, v4, v5, v6, v7] t (0, 0)) := by
 have h0 := blk_put (cs' := #[v0, z1, z2, z3, z4, z5, z6, z7]) h 0 v0 rfl
 have h1 := blk_put (cs' := #[v0, v1, z2, z3, z4, z5, z6, z7]) h0 1 v1 rfl
 have h2 := blk_put (cs' := #[v0, v1, v2, z3, z4, z5, z6, z7]) h1 2 v2 rfl
 have h3 := blk_put (cs' := #[v0, v1, v2, v3, z4, z5, z6, z7]) h2 3 v3 rfl
 have h4 := blk_put (cs' := #[v0, v1, v2, v3, v4, z5, z6, z7]) h3 4 v4 rfl
 have h5 := blk_put (cs' := #[v0, v1, v2, v3, v4, v5, z6, z7]) h4 5 v5 rfl
 have h6 := blk_put (cs' := #[v0, v1, v2, v3, v4, v5, v6, z7]) h5 6 v6 rfl
 exact blk_put (cs' := #[v0, v1, v2, v3, v4, v5, v6, v7]) h6 7 v7 rfl
theorem below8 {g : Nat} {w W : World} {v0 v1 v2 v3 v4 v5 v6 v7 : Value} (h : Below w.heap.size w W) (hg : w.heap.size ≤ g) :
 Below w.heap.size w ((((((((W.setCell ⟨g, 0, none⟩ v0).setCell ⟨g, 1, none⟩ v1).setCell ⟨g, 2, none⟩ v2).setCell ⟨g, 3, none⟩ v3).setCell ⟨g, 4, none⟩ v4).setCell ⟨g, 5, none⟩ v5).setCell ⟨g, 6, none⟩ v6).setCell ⟨g, 7, none⟩ v7) :=
 below_set (below_set (below_set (below_set (below_set (below_set (below_set (below_set h hg) hg) hg) hg) hg) hg) hg) hg
theorem far1 {w : World} {p : Addr} {u : Value} {g : Nat} {o : Obj} (hn : g ≠ p.block) (h : w.heap[g]? = some o) : (w.setCell p u).heap[g]? = some o := (Below.heap_setCell w p u g hn).trans h
theorem far8 {w : World} {g gb : Nat} {o : Obj} {v0 v1 v2 v3 v4 v5 v6 v7 : Value} (hn : g ≠ gb) (h : w.heap[g]? = some o) :
 ((((((((w.setCell ⟨gb, 0, none⟩ v0).setCell ⟨gb, 1, none⟩ v1).setCell ⟨gb, 2, none⟩ v2).setCell ⟨gb, 3, none⟩ v3).setCell ⟨gb, 4, none⟩ v4).setCell ⟨gb, 5, none⟩ v5).setCell ⟨gb, 6, none⟩ v6).setCell ⟨gb, 7, none⟩ v7).heap[g]? = some o :=
 far1 hn (far1 hn (far1 hn (far1 hn (far1 hn (far1 hn (far1 hn (far1 hn h)))))))
theorem same15 (A B : Option Addr) (c d : Nat) (l : List S50) (w : World) (hr : Kd.C k50 w A l.length l) (hq : Kd.C k50 w B l.length l) :
 Calls Tryz.prog 15 #[.slice A l.length c, .slice B l.length d] w fun e w' => e = .returned (.bool true) ∧ Below w.heap.size w w' := by
 have hu50 := Tryz.underlying50
 have hu63 := Tryz.underlying63
 have HB := aS (Below.refl w.heap.size w)
 have HR := aS hr
 have HQ := aS hq
 have HL := aS (Kd.C_max hr)
 clear hr hq
 go_enter Tryz.func15, Tryz.ntmps15
 go_wp2
 go_loopg [16] (l.length + 1) (fun kq v3 w' => ∃ j : Nat, v3 = .int .i64 (j : Int) ∧ Aside0 (kq + j = l.length + 1 ∧ j ≤ l.length) ∧ Aside0 (Below w.heap.size w w'))
 case atStart => exact ⟨0, rfl, ⟨rfl, Nat.zero_le _⟩, ⟨by first | exact HB.out | exact pw_below_drewN HB.out _⟩⟩
 case round =>
  clear HB
  obtain ⟨j, rfl, HJ, HB⟩ := hrel
  by_cases hj : j < l.length; rotate_left
  ·have e1 : ((j : Int) < (l.length : Int)) = False := eq_false (by omega)
   have e3 : (j < l.length) = False := eq_false hj
   clear hj
   go_wp2
   refine bodyPost_ret (v := .bool true) (by simp [results, Tryz.results15, go_sem]) rfl ⟨rfl, by first | exact HB.out | exact pw_below_drewN HB.out _⟩
  have f1 : (0 ≤ (j : Int)) = True := eq_true (by omega)
  have f2 : ((j : Int) < (l.length : Int)) = True := eq_true (by omega)
  have f3 : (j < l.length) = True := eq_true hj
  have f4 : wrap64 ((j : Int) + 1) = ((j + 1 : Nat) : Int) := by have := HL.out; unfold wrap64; omega
  obtain ⟨ad, A1, c1, A2, c2, A4, c4, rfl, x0, x1, x2, x3, x4, _, a1, _, a2, _, a4⟩ := at_T50 HR.out (j : Int) (by omega) (by omega)
  obtain ⟨ae, B1, d1, B2, d2, B4, d4, rfl, y0, y1, y2, y3, y4, _, b1, _, b2, _, b4⟩ := at_T50 HQ.out (j : Int) (by omega) (by omega)
  rw [Int.toNat_natCast] at x0 x1 x2 x3 x4 y0 y1 y2 y3 y4
  have HF4 := aS f4
  clear f4
  have HJ2 := aS hj
  generalize rd_T50 l (j : Int) = r at x0 x1 x2 x3 x4 y0 y1 y2 y3 y4 a1 a2 a4 b1 b2 b4
  have M1 : Aside0 (∀ W, Below w.heap.size w W → Calls Tryz.prog 36 #[.slice A1 r.f1.length c1, .slice B1 r.f1.length d1] W fun e w' => e = .returned (.bool true) ∧ Below W.heap.size W w') := ⟨fun W hb => same36 _ _ _ _ _ W (Kd.C_below a1 hb) (Kd.C_below b1 hb)⟩
  have M2 : Aside0 (∀ W, Below w.heap.size w W → Calls Tryz.prog 36 #[.slice A2 r.f2.length c2, .slice B2 r.f2.length d2] W fun e w' => e = .returned (.bool true) ∧ Below W.heap.size W w') := ⟨fun W hb => same36 _ _ _ _ _ W (Kd.C_below a2 hb) (Kd.C_below b2 hb)⟩
  have X : Aside0 (w.cell? (ad.add (j * 5)) = some (.string r.f0) ∧ w.cell? ⟨(ad.add (j * 5)).block, (ad.add (j * 5)).off + 1, none⟩ = some (.slice A1 r.f1.length c1) ∧ w.cell? ⟨(ad.add (j * 5)).block, (ad.add (j * 5)).off + 2, none⟩ = some (.slice A2 r.f2.length c2) ∧ w.cell? ⟨(ad.add (j * 5)).block, (ad.add (j * 5)).off + 3, none⟩ = some (.int .i64 r.f3) ∧ w.cell? ⟨(ad.add (j * 5)).block, (ad.add (j * 5)).off + 4, none⟩ = some (.slice A4 r.f4.length c4) ∧ w.cell? (ae.add (j * 5)) = some (.string r.f0) ∧ w.cell? ⟨(ae.add (j * 5)).block, (ae.add (j * 5)).off + 1, none⟩ = some (.slice B1 r.f1.length d1) ∧ w.cell? ⟨(ae.add (j * 5)).block, (ae.add (j * 5)).off + 2, none⟩ = some (.slice B2 r.f2.length d2) ∧ w.cell? ⟨(ae.add (j * 5)).block, (ae.add (j * 5)).off + 3, none⟩ = some (.int .i64 r.f3) ∧ w.cell? ⟨(ae.add (j * 5)).block, (ae.add (j * 5)).off + 4, none⟩ = some (.slice B4 r.f4.length d4)) := ⟨x0, x1, x2, x3, x4, y0, y1, y2, y3, y4⟩
  have G4 := aS a4
  have Q4 := aS b4
  have L4 := aS (Kd.C_max a4)
  clear hj x0 x1 x2 x3 x4 y0 y1 y2 y3 y4 a1 a2 a4 b1 b2 b4
  go_wp2
  simp only [List.append_eq, List.cons_append, List.nil_append]
  go_region_held3 (fun w' => w'.cell? (ad.add (j * 5)) = some (.string r.f0) ∧ w'.cell? ⟨(ad.add (j * 5)).block, (ad.add (j * 5)).off + 1, none⟩ = some (.slice A1 r.f1.length c1) ∧ w'.cell? ⟨(ad.add (j * 5)).block, (ad.add (j * 5)).off + 2, none⟩ = some (.slice A2 r.f2.length c2) ∧ w'.cell? ⟨(ad.add (j * 5)).block, (ad.add (j * 5)).off + 3, none⟩ = some (.int .i64 r.f3) ∧ w'.cell? ⟨(ad.add (j * 5)).block, (ad.add (j * 5)).off + 4, none⟩ = some (.slice A4 r.f4.length c4) ∧ w'.cell? (ae.add (j * 5)) = some (.string r.f0) ∧ w'.cell? ⟨(ae.add (j * 5)).block, (ae.add (j * 5)).off + 1, none⟩ = some (.slice B1 r.f1.length d1) ∧ w'.cell? ⟨(ae.add (j * 5)).block, (ae.add (j * 5)).off + 2, none⟩ = some (.slice B2 r.f2.length d2) ∧ w'.cell? ⟨(ae.add (j * 5)).block, (ae.add (j * 5)).off + 3, none⟩ = some (.int .i64 r.f3) ∧ w'.cell? ⟨(ae.add (j * 5)).block, (ae.add (j * 5)).off + 4, none⟩ = some (.slice B4 r.f4.length d4)) ((first | assumption | (have h_ := HB.out; exact ⟨pw_cell_below (by repeat (first | exact h_ | apply below_drew1 | apply pw_below_drewN)) X.out.1, pw_cell_below (by repeat (first | exact h_ | apply below_drew1 | apply pw_below_drewN)) X.out.2.1, pw_cell_below (by repeat (first | exact h_ | apply below_drew1 | apply pw_below_drewN)) X.out.2.2.1, pw_cell_below (by repeat (first | exact h_ | apply below_drew1 | apply pw_below_drewN)) X.out.2.2.2.1, pw_cell_below (by repeat (first | exact h_ | apply below_drew1 | apply pw_below_drewN)) X.out.2.2.2.2.1, pw_cell_below (by repeat (first | exact h_ | apply below_drew1 | apply pw_below_drewN)) X.out.2.2.2.2.2.1, pw_cell_below (by repeat (first | exact h_ | apply below_drew1 | apply pw_below_drewN)) X.out.2.2.2.2.2.2.1, pw_cell_below (by repeat (first | exact h_ | apply below_drew1 | apply pw_below_drewN)) X.out.2.2.2.2.2.2.2.1, pw_cell_below (by repeat (first | exact h_ | apply below_drew1 | apply pw_below_drewN)) X.out.2.2.2.2.2.2.2.2.1, pw_cell_below (by repeat (first | exact h_ | apply below_drew1 | apply pw_below_drewN)) X.out.2.2.2.2.2.2.2.2.2⟩))) (((go_at_call 36; (with_reducible first | refine (M1.out _ ?side1).mono ?_ | refine (M2.out _ ?side1).mono ?_); (case side1 => repeat (first | exact HB.out | apply below_drew1 | apply pw_below_drewN)); rintro e w4 ⟨rfl, hb⟩; replace HB := aS (bs_ (by repeat (first | exact HB.out | apply below_drew1 | apply pw_below_drewN)) hb); clear hb)))
  have x4 := pw_cell_below HB.out X.out.2.2.2.2.1
  go_wp2
  cases gk with
  | zero => exact absurd HJ.out.1 (by have := HJ2.out; omega)
  | succ k1 =>
   go_loopg [92] (r.f4.length + 1) (fun kq v3 w' => ∃ j2 : Nat, v3 = .int .i64 (j2 : Int) ∧ Aside0 (kq + j2 = r.f4.length + 1 ∧ j2 ≤ r.f4.length) ∧ Aside0 (Below w.heap.size w w'))
   case atStart => exact ⟨0, rfl, ⟨rfl, Nat.zero_le _⟩, ⟨by first | exact HB.out | exact pw_below_drewN HB.out _⟩⟩
   case round =>
    clear HB x4
    obtain ⟨j2, rfl, HI, HB⟩ := hrel
    by_cases hi : j2 < r.f4.length; rotate_left
    ·have e1 : ((j2 : Int) < (r.f4.length : Int)) = False := eq_false (by omega)
     have e3 : (j2 < r.f4.length) = False := eq_false hi
     clear hi
     go_wp2
     go_roundg k1
     case measure => omega
     case rel => exact ⟨j + 1, by first | rfl | rw [HF4.out], ⟨by have := HJ.out.1; omega, by have := HJ2.out; omega⟩, ⟨by first | exact HB.out | exact pw_below_drewN HB.out _⟩⟩
    have e1 : (0 ≤ (j2 : Int)) = True := eq_true (by omega)
    have e2 : ((j2 : Int) < (r.f4.length : Int)) = True := eq_true (by omega)
    have e3 : (j2 < r.f4.length) = True := eq_true hi
    have e4 : wrap64 ((j2 : Int) + 1) = ((j2 + 1 : Nat) : Int) := by have := L4.out; unfold wrap64; omega
    have z0 : 0 ≤ (j2 : Int) := Int.natCast_nonneg _
    have z1 : (j2 : Int) < (r.f4.length : Int) := Int.ofNat_lt.2 hi
    obtain ⟨ai, D6, e6, D7, e7, eA, v0, v1, v2, v3, v4, v5, v6, v7, _, p6, _, p7⟩ := at_T63 G4.out (j2 : Int) z0 z1
    obtain ⟨aj, E6, g6, E7, g7, eB, u0, u1, u2, u3, u4, u5, u6, u7, _, q6, _, q7⟩ := at_T63 Q4.out (j2 : Int) z0 z1
    clear z0 z1
    rw [Int.toNat_natCast] at v0 v1 v2 v3 v4 v5 v6 v7 u0 u1 u2 u3 u4 u5 u6 u7
    have HI2 := aS hi
    generalize rd_T63 r.f4 (j2 : Int) = s at v0 v1 v2 v3 v4 v5 v6 v7 u0 u1 u2 u3 u4 u5 u6 u7 p6 p7 q6 q7
    subst eA eB
    have M3 : Aside0 (∀ W, Below w.heap.size w W → Calls Tryz.prog 37 #[.agg #[.int .i64 s.f4.f0, .bool s.f4.f1, .slice D6 s.f4.f2.length e6, .slice D7 s.f4.f3.length e7], .agg #[.int .i64 s.f4.f0, .bool s.f4.f1, .slice E6 s.f4.f2.length g6, .slice E7 s.f4.f3.length g7]] W fun e w' => e = .returned (.bool true) ∧ Below W.heap.size W w') := ⟨fun W hb => same37 _ _ _ _ _ _ _ _ _ _ _ _ W (Kd.C_below p6 hb) (Kd.C_below p7 hb) (Kd.C_below q6 hb) (Kd.C_below q7 hb)⟩
    have U : Aside0 (w.cell? (aj.add (j2 * 8)) = some (.int .i64 s.f0) ∧ w.cell? ⟨(aj.add (j2 * 8)).block, (aj.add (j2 * 8)).off + 1, none⟩ = some (.int .i64 s.f1) ∧ w.cell? ⟨(aj.add (j2 * 8)).block, (aj.add (j2 * 8)).off + 2, none⟩ = some (.int .i64 s.f2) ∧ w.cell? ⟨(aj.add (j2 * 8)).block, (aj.add (j2 * 8)).off + 3, none⟩ = some (.int .i64 s.f3) ∧ w.cell? ⟨(aj.add (j2 * 8)).block, (aj.add (j2 * 8)).off + 4, none⟩ = some (.int .i64 s.f4.f0) ∧ w.cell? ⟨(aj.add (j2 * 8)).block, (aj.add (j2 * 8)).off + 5, none⟩ = some (.bool s.f4.f1) ∧ w.cell? ⟨(aj.add (j2 * 8)).block, (aj.add (j2 * 8)).off + 6, none⟩ = some (.slice E6 s.f4.f2.length g6) ∧ w.cell? ⟨(aj.add (j2 * 8)).block, (aj.add (j2 * 8)).off + 7, none⟩ = some (.slice E7 s.f4.f3.length g7)) := ⟨u0, u1, u2, u3, u4, u5, u6, u7⟩
    replace v0 := pw_cell_below HB.out v0
    replace v1 := pw_cell_below HB.out v1
    replace v2 := pw_cell_below HB.out v2
    replace v3 := pw_cell_below HB.out v3
    replace v4 := pw_cell_below HB.out v4
    replace v5 := pw_cell_below HB.out v5
    replace v6 := pw_cell_below HB.out v6
    replace v7 := pw_cell_below HB.out v7
    clear hi u0 u1 u2 u3 u4 u5 u6 u7 p6 p7 q6 q7
    go_upto_region 11 with ((with_reducible refine gate_dst (N := 7) rfl ?_); (try (refine gate_guard (by rfl) ?_; dsimp only)); refine bx (N := 7) (cs := #[.int .i64 0, .int .i64 0, .int .i64 0, .int .i64 0, .int .i64 0, .bool false, .slice none 0 0, .slice none 0 0]) (t := 63) ?_; intro ga hga wa hbox hb; have BA := aS hbox; have LA := gz hga HB; replace HB := aS (bs_ (bl HB) hb); clear hga hb hbox; obtain ⟨hcz_0, hcz_1, hcz_2, hcz_3, hcz_4, hcz_5, hcz_6, hcz_7, hfz_0, hfz_1, hfz_2, hfz_3, hfz_4, hfz_5, hfz_6, hfz_7⟩ := cf8 BA.out)
    refine at_world (fun W => Below w.heap.size w W ∧ W.heap[ga]? = some (.cells #[.int .i64 s.f0, .int .i64 s.f1, .int .i64 s.f2, .int .i64 s.f3, .int .i64 s.f4.f0, .bool s.f4.f1, .slice D6 s.f4.f2.length e6, .slice D7 s.f4.f3.length e7] 63 (0, 0))) ⟨below8 HB.out LA.out, put8 BA.out⟩ ?_
    clear HB BA hcz_0 hcz_1 hcz_2 hcz_3 hcz_4 hcz_5 hcz_6 hcz_7 hfz_0 hfz_1 hfz_2 hfz_3 hfz_4 hfz_5 hfz_6 hfz_7 v0 v1 v2 v3 v4 v5 v6 v7
    rintro w5 ⟨hB, hA⟩
    have HB := aS hB
    have BA := aS hA
    clear hB hA
    have y4 := pw_cell_below HB.out X.out.2.2.2.2.2.2.2.2.2
    obtain ⟨u0, u1, u2, u3, u4, u5, u6, u7⟩ := U.out
    replace u0 := pw_cell_below HB.out u0
    replace u1 := pw_cell_below HB.out u1
    replace u2 := pw_cell_below HB.out u2
    replace u3 := pw_cell_below HB.out u3
    replace u4 := pw_cell_below HB.out u4
    replace u5 := pw_cell_below HB.out u5
    replace u6 := pw_cell_below HB.out u6
    replace u7 := pw_cell_below HB.out u7
    go_upto_region 12 with ((with_reducible refine gate_dst (N := 8) rfl ?_); (try (refine gate_guard (by rfl) ?_; dsimp only)); refine bx (N := 8) (cs := #[.int .i64 0, .int .i64 0, .int .i64 0, .int .i64 0, .int .i64 0, .bool false, .slice none 0 0, .slice none 0 0]) (t := 63) ?_; intro gb hgb wb hbox hb; have BB := aS hbox; have LB := gz hgb HB; have NE := aS (show ga ≠ gb from hgb ▸ Nat.ne_of_lt (blk_lt BA.out)); replace BA := aS (blk_below BA.out hb); replace HB := aS (bs_ (bl HB) hb); clear hgb hb hbox; obtain ⟨hcz_0, hcz_1, hcz_2, hcz_3, hcz_4, hcz_5, hcz_6, hcz_7, hfz_0, hfz_1, hfz_2, hfz_3, hfz_4, hfz_5, hfz_6, hfz_7⟩ := cf8 BB.out)
    refine at_world (fun W => Below w.heap.size w W ∧ W.heap[ga]? = some (.cells #[.int .i64 s.f0, .int .i64 s.f1, .int .i64 s.f2, .int .i64 s.f3, .int .i64 s.f4.f0, .bool s.f4.f1, .slice D6 s.f4.f2.length e6, .slice D7 s.f4.f3.length e7] 63 (0, 0)) ∧ W.heap[gb]? = some (.cells #[.int .i64 s.f0, .int .i64 s.f1, .int .i64 s.f2, .int .i64 s.f3, .int .i64 s.f4.f0, .bool s.f4.f1, .slice E6 s.f4.f2.length g6, .slice E7 s.f4.f3.length g7] 63 (0, 0))) ⟨below8 HB.out LB.out, far8 NE.out BA.out, put8 BB.out⟩ ?_
    clear HB BA BB hcz_0 hcz_1 hcz_2 hcz_3 hcz_4 hcz_5 hcz_6 hcz_7 hfz_0 hfz_1 hfz_2 hfz_3 hfz_4 hfz_5 hfz_6 hfz_7 u0 u1 u2 u3 u4 u5 u6 u7 y4
    rintro w6 ⟨hB, hA, hC⟩
    have HB := aS hB
    obtain ⟨v0, v1, v2, v3, v4, v5, v6, v7⟩ := cells8 hA
    obtain ⟨u0, u1, u2, u3, u4, u5, u6, u7⟩ := cells8 hC
    clear hB hA hC
    go_wp2_with (go_at_call 37; (with_reducible refine (M3.out _ ?side1).mono ?_); (case side1 => repeat (first | exact HB.out | apply below_drew1 | apply pw_below_drewN)); rintro e w7 ⟨rfl, hb⟩; replace HB := aS (bs_ (bl HB) hb); clear hb v0 v1 v2 v3 v4 v5 v6 v7 u0 u1 u2 u3 u4 u5 u6 u7)
    cases gk with
    | zero => exact absurd HI.out.1 (by have := HI2.out; omega)
    | succ k3 =>
     go_roundg k3
     case measure => omega
     case rel => exact ⟨j2 + 1, by first | rfl | rw [e4], ⟨by have := HI.out.1; omega, by have := HI2.out; omega⟩, ⟨by first | exact HB.out | exact pw_below_drewN HB.out _⟩⟩
def fluxionref29_Same.f (l m : List S50) : Option Bool := if eqL eq50 l m = true then some true else none
theorem fluxionref29_Same.calls (A0 : Option Addr) (c0 : Nat) (l0 : List S50) (A1 : Option Addr) (c1 : Nat) (l1 : List S50) (r : Bool) (w : World) (hr0 : Kd.C k50 w A0 l0.length l0) (hc0 : l0.length ≤ c0) (hr1 : Kd.C k50 w A1 l1.length l1) (hc1 : l1.length ≤ c1) (h : fluxionref29_Same.f l0 l1 = some r) :
 Calls Tryz.prog 15 #[.slice A0 l0.length c0, .slice A1 l1.length c1] w fun e w' => e = .returned (.bool r) ∧ Below w.heap.size w w' := by
 unfold fluxionref29_Same.f at h
 split at h
 ·rename_i h2
  obtain rfl := eqL_of eq50_of _ _ h2
  obtain rfl := sI h
  exact same15 _ _ _ _ _ _ hr0 hr1
 ·cases h
end Go.Proofs.YtbkknoipgmlcmaaGreatDoor.P

