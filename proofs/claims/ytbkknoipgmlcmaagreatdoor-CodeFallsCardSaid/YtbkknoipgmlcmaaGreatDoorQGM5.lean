import Derived.Test.YtbkknoipgmlcmaaGreatDoorQGM4
set_option linter.all false
set_option maxHeartbeats 8000000
set_option maxRecDepth 100000
namespace Go.Proofs.QP
open Go.RowKit Go.Proofs.PW Go.Proofs.PL Go.Proofs.PM Go.Proofs.FX
section
section
attribute [local go_sem] yd zV
attribute [local go_sem] xf xg xD xE yI yJ xl xm
mutual
def zm.l0 : Nat → List (S50) → Int → List (S50) → Int → Option ((List (S50)))
 | 0, _, _, _, _ => none
 | k + 1, x0, x1, x5, x6 => if x6 < (x0.length : Int) then (zm.j1 k x0 x1 x5 x6 (decide (x6 < 34))) else (zm.j1 k x0 x1 x5 x6 false)
def zm.j1 : Nat → List (S50) → Int → List (S50) → Int → Bool → Option ((List (S50)))
 | 0, _, _, _, _, _ => none
 | k + 1, x0, x1, x5, x6, x18 => if x18 = true then (if 0 ≤ x6 then (if x6 < (x0.length : Int) then (if 0 ≤ (mn (((z8 x0 x6).f0).size : Int) 26) then (if (mn (((z8 x0 x6).f0).size : Int) 26) ≤ (((z8 x0 x6).f0).size : Int) then ((zE.f k ((z8 x0 x6).f1)).bind fun t137 => ((zE.f k ((z8 x0 x6).f2)).bind fun t140 => (zm.l1 k x0 x1 x5 x6 0 ((z8 x0 x6).f0) ((z8 x0 x6).f1) ((z8 x0 x6).f2) ((z8 x0 x6).f3) ((z8 x0 x6).f4) (((z8 x0 x6).f0).extract 0 ((mn (((z8 x0 x6).f0).size : Int) 26) : Int).toNat) t137 t140 ((z8 x0 x6).f3) ([] : List (S63))))) else (none)) else (none)) else (none)) else (none)) else (some x5)
def zm.l1 : Nat → List (S50) → Int → List (S50) → Int → Int → ByteArray → List (xx) → List (xx) → Int → List (S63) → ByteArray → List (xx) → List (xx) → Int → List (S63) → Option ((List (S50)))
 | 0, _, _, _, _, _, _, _, _, _, _, _, _, _, _, _ => none
 | k + 1, x0, x1, x5, x6, x9, x137000, x137001, x137002, x137003, x137004, x144000, x144001, x144002, x144003, x144004 => if x9 < (x137004.length : Int) then (if x1 > 0 then (if 0 ≤ x9 then ((zy.f ((zb x137004 x9).f4.f0) ((zb x137004 x9).f4.f1) ((zb x137004 x9).f4.f2) ((zb x137004 x9).f4.f3) 260).bind fun bt146 => (if x144004.length < 1466015503701 then (zm.l1 k x0 (wrap64 (x1 - 1)) x5 x6 (wrap64 (x9 + 1)) x137000 x137001 x137002 x137003 x137004 x144000 x144001 x144002 x144003 (x144004 ++ [(⟨(zb x137004 x9).f0, (zb x137004 x9).f1, (zb x137004 x9).f2, (zb x137004 x9).f3, (⟨bt146.1, bt146.2.1, bt146.2.2.1, bt146.2.2.2.1⟩ : S61)⟩ : S63)])) else (none))) else (none)) else (if x5.length < 1466015503701 then (zm.l0 k x0 x1 (x5 ++ [(⟨x144000, x144001, x144002, x144003, x144004⟩ : S50)]) (wrap64 (x6 + 1))) else (none))) else (if x5.length < 1466015503701 then (zm.l0 k x0 x1 (x5 ++ [(⟨x144000, x144001, x144002, x144003, x144004⟩ : S50)]) (wrap64 (x6 + 1))) else (none))
end
def zm.f (k : Nat) (l0 : List (S50)) (a1 : Int) : Option ((List (S50))) := zm.l0 k l0 a1 ([] : List (S50)) 0
def zm.T6 : Bool × List (List Nat × List Nat) := (true, [([], []), ([0], [0]), ([], []), ([2], [2]), ([3], [3]), ([4], [4]), ([1, 5], [1, 5]), ([], []), ([7], [7]), ([8], [8]), ([], []), ([10], [10]), ([11, 9], [11]), ([], []), ([13], [13]), ([6, 9, 12, 14], [6, 9, 12, 14]), ([], []), ([16, 15, 12, 0, 1, 2, 3, 4, 5, 6, 7, 8, 9, 10, 11, 12, 13, 14, 15, 16], [15, 16])])
def zm.B6 : List Nat := [0, 1, 0, 4, 12, 28, 63, 0, 128, 384, 0, 1024, 3968, 0, 8192, 32767, 0, 131071]
theorem zm.zen : z06 .any (opsOf Tryz.f30 6) = zm.T6 := by kernel_rfl
theorem zm.zdv : z0f zm.T6.2 zm.B6 = true := by kernel_rfl
theorem zm.calls (k : Nat) (A0 : Option Addr) (c0 : Nat) (l0 : List (S50)) (a1 : Int) (r : List (S50)) (w : World) (hr0 : Kd.C k50 w A0 l0.length l0) (hc0 : l0.length ≤ c0) (h : zm.f k l0 a1 = some r) :
 Calls Tryz.prog 30 #[.slice A0 l0.length c0, .int .i64 a1] w fun e w' => ∃ v0_ : Value, e = .returned (v0_) ∧ Kd.R k50 50 w' w.heap.size (fun _ => True) v0_ r ∧ Below w.heap.size w w' := by
 have hu50 := Tryz.underlying50
 have hu63 := Tryz.underlying63
 have hu61 := Tryz.underlying61
 have HR0 := aS hr0
 have HC0 := aS hc0
 clear hr0 hc0
 have HB := hR w
 have H := h
 unfold zm.f at H
 clear h
 have H' := aS H
 clear H
 go_enter Tryz.func30, Tryz.ntmps30
 go_wp2
 go_loopg [1, 5, 6] k (fun kq v1 v5 v6 w' => ∃ (x1_1 : Int) (x5_1 : List (S50)) (x6_1 : Int), v1 = .int .i64 x1_1 ∧ v6 = .int .i64 x6_1 ∧ Aside0 (zm.l0 kq l0 x1_1 x5_1 x6_1 = some r) ∧ Aside0 (kq ≤ k) ∧ Aside0 (Kd.R k50 50 w' w.heap.size (fun _ => True) v5 x5_1) ∧ Aside0 (Below w.heap.size w w'))
 case atStart => exact ⟨(a1), (([] : List (S50))), (0), rs, rs, H', ⟨Nat.le_refl _⟩, ⟨by first | exact Kd.z0l _ _ _ _ _ | exact Kd.z2l _ _ _ _ _ | exact Kd.z2w _ _ _ _ _ | exact Kd.z2o _ _ _ _ _ | exact Kd.z2u _ _ _ _ _⟩, ⟨bl HB⟩⟩
 case round =>
  clear H'
  obtain ⟨x1_1, x5_1, x6_1, rfl, rfl, HA, HK1, HO_5, HB⟩ := hrel
  cases gk with
  | zero => exact absurd HA.out (by simp [zm.l0])
  | succ k1 =>
   have H := HA.out
   clear HA
   simp only [zm.l0] at H
   have HC3 := aS H
   clear H
   go_upto_region 3 with (fail)
   go_cut [18] (fun v18 wc => ∃ (kq : Nat) (x18_2 : Bool), v18 = .bool x18_2 ∧ Aside0 (zm.j1 kq l0 x1_1 x5_1 x6_1 x18_2 = some r) ∧ Aside0 (kq ≤ k1) ∧ Aside0 (Kd.R k50 50 wc w.heap.size (fun _ => True) u5 x5_1) ∧ Aside0 (Below w.heap.size w wc))
   case first =>
    have H := HC3.out
    clear HC3
    by_cases c4 : x6_1 < (l0.length : Int)
    ·rw [if_pos c4] at H
     have c4b0 := dT c4
     clear c4
     (first | rw [c4b0] | (simp only [yh, yQ]; rw [c4b0]) | skip)
     have H' := aS H
     clear H
     go_wp2
     go_meet
     case rel => exact ⟨_, (decide (x6_1 < 34)), rs, H', ⟨by have := HK1.out; first | omega | exact Nat.le_refl _⟩, ⟨by exact rA HO_5.out⟩, ⟨bl HB⟩⟩
    ·rw [if_neg c4] at H
     have c4b0 := dF c4
     clear c4
     (first | rw [c4b0] | (simp only [yh, yQ]; rw [c4b0]) | skip)
     have H' := aS H
     clear H
     go_wp2
     go_meet
     case rel => exact ⟨_, (false), rs, H', ⟨by have := HK1.out; first | omega | exact Nat.le_refl _⟩, ⟨by exact rA HO_5.out⟩, ⟨bl HB⟩⟩
   case rest =>
    clear HC3
    obtain ⟨kq, x18_2, rfl, HA, HJ2, HO_5, HB⟩ := hcut
    cases kq with
    | zero => exact absurd HA.out (by simp [zm.j1])
    | succ kj2 =>
     have H := HA.out
     clear HA
     simp only [zm.j1] at H
     by_cases c5 : x18_2 = true; rotate_left
     ·replace c5 := Bool.eq_false_iff.mpr c5
      subst c5
      rw [if_neg iN] at H
      obtain rfl := sI H
      go_wp2
      go_ret
      exact ⟨_, re, by exact rA HO_5.out, bl HB⟩
     subst c5
     rw [if_pos rfl] at H
     replace H := iD_ H
     obtain ⟨c6b0, H⟩ := H
     replace H := iD_ H
     obtain ⟨c7b0, H⟩ := H
     obtain ⟨ji8, hji8⟩ : ∃ j_ : Int, (mn (((z8 l0 x6_1).f0).size : Int) 26) = j_ := ⟨_, rfl⟩
     simp only [hji8] at H
     have hji8_ : (if 26 < (((z8 l0 x6_1).f0).size : Int) then 26 else (((z8 l0 x6_1).f0).size : Int)) = ji8 := hji8
     replace H := iE_ H
     obtain ⟨c9b0, c9b1, H⟩ := H
     replace H := iE_ H
     obtain ⟨c10b0, c10b1, H⟩ := H
     replace H := bA H
     obtain ⟨t137, A11, H⟩ := H
     replace H := bA H
     obtain ⟨t140, A12, H⟩ := H
     have H' := aS H
     clear H
     obtain ⟨ad135, A135_1, c135_1, A135_2, c135_2, A135_4, c135_4, e135, hx135_0, hx135_1, hx135_2, hx135_3, hx135_4, hl135_1, hi135_1, hl135_2, hi135_2, hl135_4, hi135_4⟩ := xW HR0.out x6_1 oa oa
     cases e135
     replace hx135_0 := xb HB hx135_0
     replace hx135_1 := xb HB hx135_1
     replace hx135_2 := xb HB hx135_2
     replace hx135_3 := xb HB hx135_3
     replace hx135_4 := xb HB hx135_4
     have HR135_1 := aS hi135_1
     have HC135_1 := aS hl135_1
     clear hi135_1 hl135_1
     have HR135_2 := aS hi135_2
     have HC135_2 := aS hl135_2
     clear hi135_2 hl135_2
     have HR135_4 := aS hi135_4
     have HC135_4 := aS hl135_4
     clear hi135_4 hl135_4
     have p135 : (0 ≤ (x6_1 : Int)) = True := tO
     have q135 : (x6_1 < (l0.length : Int)) = True := tO
     try go_wp2_with (first | ((with_reducible refine zq (N := 7) rfl ?_); refine bx (N := 7) (cs := #[.string (⟨#[]⟩ : ByteArray), .slice none 0 0, .slice none 0 0, .int .i64 0, .slice none 0 0]) (t := 50) ?_; intro gb136 hg w13 hbox hb; replace HO_5 := aS (Kd.zU (Kd.z2p (by exact rA HO_5.out) gb136 (Nat.le_of_eq hg.symm)) hb); have BK136 := aS (hbox); have GW136 := (gz hg HB : Aside0 (w.heap.size ≤ gb136)); have GE136 := (gz hg HB : Aside0 (w.heap.size ≤ gb136)); replace HB := hB_ HB hb; clear hb hbox hg; obtain ⟨_, _, _, _, _, _, _, _, _, _⟩ := cf5 BK136.out))
     have n0_ : Aside0 (Kd.R k50 50 (((((w13.setCell ⟨gb136, 0, none⟩ (.string ((z8 l0 x6_1).f0))).setCell ⟨gb136, 1, none⟩ (.slice A135_1 ((z8 l0 x6_1).f1).length c135_1)).setCell ⟨gb136, 2, none⟩ (.slice A135_2 ((z8 l0 x6_1).f2).length c135_2)).setCell ⟨gb136, 3, none⟩ (.int .i64 ((z8 l0 x6_1).f3))).setCell ⟨gb136, 4, none⟩ (.slice A135_4 ((z8 l0 x6_1).f4).length c135_4)) w.heap.size (fun k_ => k_ ≠ gb136) u5 x5_1) := ⟨by exact Kd.zw (rF (Kd.zw HO_5.out (fun k_ hk => (⟨hk, hk.2⟩ : _ ∧ k_ ≠ gb136)))) (fun _ hk => hk.1.2)⟩
     have n1_ : Aside0 ((((((w13.setCell ⟨gb136, 0, none⟩ (.string ((z8 l0 x6_1).f0))).setCell ⟨gb136, 1, none⟩ (.slice A135_1 ((z8 l0 x6_1).f1).length c135_1)).setCell ⟨gb136, 2, none⟩ (.slice A135_2 ((z8 l0 x6_1).f2).length c135_2)).setCell ⟨gb136, 3, none⟩ (.int .i64 ((z8 l0 x6_1).f3))).setCell ⟨gb136, 4, none⟩ (.slice A135_4 ((z8 l0 x6_1).f4).length c135_4)).heap[gb136]? = some (.cells #[.string ((z8 l0 x6_1).f0), .slice A135_1 ((z8 l0 x6_1).f1).length c135_1, .slice A135_2 ((z8 l0 x6_1).f2).length c135_2, .int .i64 ((z8 l0 x6_1).f3), .slice A135_4 ((z8 l0 x6_1).f4).length c135_4] 50 (0, 0))) := ⟨bp BK136⟩
     have n2_ : Aside0 (Below w.heap.size w (((((w13.setCell ⟨gb136, 0, none⟩ (.string ((z8 l0 x6_1).f0))).setCell ⟨gb136, 1, none⟩ (.slice A135_1 ((z8 l0 x6_1).f1).length c135_1)).setCell ⟨gb136, 2, none⟩ (.slice A135_2 ((z8 l0 x6_1).f2).length c135_2)).setCell ⟨gb136, 3, none⟩ (.int .i64 ((z8 l0 x6_1).f3))).setCell ⟨gb136, 4, none⟩ (.slice A135_4 ((z8 l0 x6_1).f4).length c135_4))) := ⟨bl HB⟩
     generalize (((((w13.setCell ⟨gb136, 0, none⟩ (.string ((z8 l0 x6_1).f0))).setCell ⟨gb136, 1, none⟩ (.slice A135_1 ((z8 l0 x6_1).f1).length c135_1)).setCell ⟨gb136, 2, none⟩ (.slice A135_2 ((z8 l0 x6_1).f2).length c135_2)).setCell ⟨gb136, 3, none⟩ (.int .i64 ((z8 l0 x6_1).f3))).setCell ⟨gb136, 4, none⟩ (.slice A135_4 ((z8 l0 x6_1).f4).length c135_4)) = w15 at n0_ n1_ n2_ ⊢
     have HO_5 := n0_
     have BK136 := n1_
     have HB := n2_
     clear n0_ n1_ n2_
     replace HO_5 := aS (Kd.xu HO_5.out)
     replace BK136 := aS (yb BK136.out)
     replace HB := aS (zD HB.out)
     refine z16 (n := 18) (S := fun w' => w'.cell? ⟨gb136, 0, none⟩ = some (.string ((z8 l0 x6_1).f0)) ∧ w'.cell? ⟨gb136, 1, none⟩ = some (.slice A135_1 ((z8 l0 x6_1).f1).length c135_1) ∧ w'.cell? ⟨gb136, 2, none⟩ = some (.slice A135_2 ((z8 l0 x6_1).f2).length c135_2) ∧ w'.cell? ⟨gb136, 3, none⟩ = some (.int .i64 ((z8 l0 x6_1).f3)) ∧ w'.cell? ⟨gb136, 4, none⟩ = some (.slice A135_4 ((z8 l0 x6_1).f4).length c135_4)) (ds := []) (mk 18 0) (by kernel_rfl) rfl (by kernel_rfl) ⟨(za BK136.out 0).trans rfl, (za BK136.out 1).trans rfl, (za BK136.out 2).trans rfl, (za BK136.out 3).trans rfl, (za BK136.out 4).trans rfl⟩ (fun hHeld => ?_); refine z0K zm.zen zm.zdv (fun HT_ HW_ => ?_)
     generalize w15.drew = w16 at HO_5 BK136 HB hHeld ⊢
     refine pv 0 25 (mk 18 1) ?_
     refine pv 2 27 (mk 18 5) ?_
     refine pv 7 32 (mk 18 133) ?_
     refine pv 10 35 (mk 18 1157) ?_
     refine pv 13 38 (mk 18 9349) ?_
     refine tv 1 26 (mk 18 9351) hHeld ?_
     refine tv 3 28 (mk 18 9359) hHeld ?_
     refine pv 4 29 (mk 18 9375) ?_
     refine pv 5 30 (mk 18 9407) ?_
     refine pv 6 31 (mk 18 9471) ?_
     refine tv 8 33 (mk 18 9727) hHeld ?_
     refine tv 11 36 (mk 18 11775) hHeld ?_
     refine tv 14 39 (mk 18 28159) hHeld ?_
     refine zdC (σ := Value × Value × Nat) 1 (mk 18 131071) (fun s_ => [(34, s_.1), (37, s_.2.1), (8, .pointer (some ⟨s_.2.2, 0, none⟩)), (40, .agg #[.string (((z8 l0 x6_1).f0).extract 0 ((ji8) : Int).toNat), s_.1, s_.2.1, .int .i64 ((z8 l0 x6_1).f3), .slice none 0 0])]) (fun s_ w' => (w'.cell? ⟨gb136, 0, none⟩ = some (.string ((z8 l0 x6_1).f0)) ∧ w'.cell? ⟨gb136, 1, none⟩ = some (.slice A135_1 ((z8 l0 x6_1).f1).length c135_1) ∧ w'.cell? ⟨gb136, 2, none⟩ = some (.slice A135_2 ((z8 l0 x6_1).f2).length c135_2) ∧ w'.cell? ⟨gb136, 3, none⟩ = some (.int .i64 ((z8 l0 x6_1).f3)) ∧ w'.cell? ⟨gb136, 4, none⟩ = some (.slice A135_4 ((z8 l0 x6_1).f4).length c135_4)) ∧ (Kd.S xC 115 w' w.heap.size (fun k_ => some k_ ≠ (s_.2.1 : Value).ownBlock) s_.1 t137) ∧ (Kd.S xC 115 w' w.heap.size (fun k_ => some k_ ≠ (s_.1 : Value).ownBlock) s_.2.1 t140) ∧ (Kd.R k50 50 w' w.heap.size (fun k_ => some k_ ≠ (s_.1 : Value).ownBlock ∧ some k_ ≠ (s_.2.1 : Value).ownBlock ∧ k_ ≠ gb136 ∧ k_ ≠ s_.2.2) u5 x5_1) ∧ (w'.heap[gb136]? = some (.cells #[.string ((z8 l0 x6_1).f0), .slice A135_1 ((z8 l0 x6_1).f1).length c135_1, .slice A135_2 ((z8 l0 x6_1).f2).length c135_2, .int .i64 ((z8 l0 x6_1).f3), .slice A135_4 ((z8 l0 x6_1).f4).length c135_4] 50 (0, 0))) ∧ (w'.heap[s_.2.2]? = some (.cells #[.string (⟨#[]⟩ : ByteArray), .slice none 0 0, .slice none 0 0, .int .i64 0, .slice none 0 0] 50 (0, 0))) ∧ (w.heap.size ≤ s_.2.2) ∧ (w.heap.size ≤ s_.2.2) ∧ (gb136 ≠ s_.2.2) ∧ (s_.2.2 ≠ gb136) ∧ (Below w.heap.size w w')) ?_ ?_
     rotate_left
     ·intro hCont
      refine ze0 (i := 9) (j := 16) (Ni := some 34) (Nj := some 8) (mk 18 28671) (mk 18 93695) rfl rfl rfl rfl (zbb HT_.out (by kernel_rfl)) (by decide) (by decide) (fun K hK => ?_) (fun K hK => ?_)
      ·skip
       refine z1C Tryz.func84 (by kernel_rfl) rfl #[.slice A135_1 ((z8 l0 x6_1).f1).length c135_1] (by rfl) rfl rfl (by (try simp only [List.map_toArray, List.map_cons, List.map_nil]); first | done | rfl | (simp only [List.length_drop, List.length_take]; rfl) | (simp only [ByteArray.size_append, Int.toNat_natCast]; rfl)) ?_
       with_reducible refine (zE.calls kj2 _ _ ((z8 l0 x6_1).f1) t137 _ ?side1 ?side2 A11.out).mono ?_
       (case side1 => exact cb HR135_1 HB)
       (case side2 => exact HC135_1.out)
       rintro e w17 ⟨v138, rfl, ho0, hb⟩
       refine ⟨_, rfl, ?_⟩
       replace HO_5 := aS (Kd.yP (by exact rA HO_5.out) (Kd.z2t ho0) hb)
       have HO139 := aS (Kd.z3t ho0 (zg (bl HB)))
       replace BK136 := bb BK136 hb
       replace HB := hB_ HB hb
       refine hK.out _ _ ⟨(za BK136.out 0).trans rfl, (za BK136.out 1).trans rfl, (za BK136.out 2).trans rfl, (za BK136.out 3).trans rfl, (za BK136.out 4).trans rfl⟩ (fun hHeld => ?_)
       clear hK K
       refine xY (a' := ?_) ?_ ?_
       rotate_left
       ·show Act.put _ (some 34) _ = _
        simp only [Act.put, List.setIfInBounds_toArray, List.set_cons_zero, List.set_cons_succ, yh, yQ]
        rfl
       refine ze0 (i := 12) (j := 16) (Ni := some 37) (Nj := some 8) (mk 18 32767) (mk 18 94207) rfl rfl rfl rfl (zbb HT_.out (by kernel_rfl)) (by decide) (by decide) (fun K hK => ?_) (fun K hK => ?_)
       ·skip
        refine z1C Tryz.func84 (by kernel_rfl) rfl #[.slice A135_2 ((z8 l0 x6_1).f2).length c135_2] (by rfl) rfl rfl (by (try simp only [List.map_toArray, List.map_cons, List.map_nil]); first | done | rfl | (simp only [List.length_drop, List.length_take]; rfl) | (simp only [ByteArray.size_append, Int.toNat_natCast]; rfl)) ?_
        with_reducible refine (zE.calls kj2 _ _ ((z8 l0 x6_1).f2) t140 _ ?side1 ?side2 A12.out).mono ?_
        (case side1 => exact cb HR135_2 HB)
        (case side2 => exact HC135_2.out)
        rintro e w18 ⟨v141, rfl, ho0, hb⟩
        refine ⟨_, rfl, ?_⟩
        replace HO_5 := aS (Kd.yP (by exact rA HO_5.out) (Kd.z2t ho0) hb)
        have HO142 := aS (Kd.z3t (Kd.z7p ho0 (Kd.zcE (by exact sA HO139.out))) (zg (bl HB)))
        replace HO139 := aS (Kd.z3s (by exact sA HO139.out) (Kd.z2t ho0) hb)
        replace BK136 := bb BK136 hb
        replace HB := hB_ HB hb
        obtain ⟨Ao19, co19, eo19⟩ := Kd.z10 HO142.out
        (first | subst eo19 | (injection eo19 with f1_ f2_ f3_; have f4_ := f1_.symm; have f5_ := f3_.symm; clear f1_ f2_ f3_; subst f4_; subst f5_))
        obtain ⟨Ao20, co20, eo20⟩ := Kd.z10 HO139.out
        (first | subst eo20 | (injection eo20 with f1_ f2_ f3_; have f4_ := f1_.symm; have f5_ := f3_.symm; clear f1_ f2_ f3_; subst f4_; subst f5_))
        refine hK.out _ _ ⟨(za BK136.out 0).trans rfl, (za BK136.out 1).trans rfl, (za BK136.out 2).trans rfl, (za BK136.out 3).trans rfl, (za BK136.out 4).trans rfl⟩ (fun hHeld => ?_)
        clear hK K
        refine xY (a' := ?_) ?_ ?_
        rotate_left
        ·show Act.put _ (some 37) _ = _
         simp only [Act.put, List.setIfInBounds_toArray, List.set_cons_zero, List.set_cons_succ, yh, yQ]
         rfl
        refine pv 15 40 (mk 18 65535) ?_
        refine z0Z (i := 16) (N := some 8) (mk 18 131071) rfl rfl (z0k HT_.out (by kernel_rfl)) (by decide) (fun K hK => ?_)
        refine z3u ?hg (N := 8) ?hd (cs := #[.string (⟨#[]⟩ : ByteArray), .slice none 0 0, .slice none 0 0, .int .i64 0, .slice none 0 0]) (t := 50) ?hr ?_; (case hd => rfl); (case hg => rfl); (case hr => first | (go_simp; done) | (go_simp; rfl))
        intro gb143 hg w21 hbox hb
        have n0_ := aS (Kd.zU (Kd.z2p (by exact rA HO_5.out) gb143 (Nat.le_of_eq hg.symm)) hb)
        have n1_ := aS (Kd.z0R (by exact sA HO139.out) hb)
        have n2_ := aS (Kd.z0R (by exact sA HO142.out) hb)
        have n3_ := aS (zf (bj BK136) hb)
        have n4_ := aS (bs_ (bl HB) hb)
        have n5_ := aS (hbox)
        have n6_ := (gz hg HB : Aside0 (w.heap.size ≤ gb143))
        have n7_ := (gz hg HB : Aside0 (w.heap.size ≤ gb143))
        have n8_ := aS ((by rw [hg]; exact Nat.ne_of_lt (yR (bj BK136)) : gb136 ≠ gb143))
        have n9_ := aS ((by rw [hg]; exact Nat.ne_of_gt (yR (bj BK136)) : gb143 ≠ gb136))
        clear HO_5
        clear HO139
        clear HO142
        clear BK136
        clear HB
        have HO_5 := n0_
        have HO139 := n1_
        have HO142 := n2_
        have BK136 := n3_
        have HB := n4_
        have BK143 := n5_
        have GW143 := n6_
        have GE143 := n7_
        have NB136_143 := n8_
        have NB143_136 := n9_
        clear n0_ n1_ n2_ n3_ n4_ n5_ n6_ n7_ n8_ n9_
        clear hb hbox hg
        refine hK.out _ _ ⟨(za BK136.out 0).trans rfl, (za BK136.out 1).trans rfl, (za BK136.out 2).trans rfl, (za BK136.out 3).trans rfl, (za BK136.out 4).trans rfl⟩ (fun hHeld => ?_)
        clear hK K
        refine xY (a' := ?_) ?_ ?_
        rotate_left
        ·show Act.put _ (some 8) _ = _
         simp only [Act.put, List.setIfInBounds_toArray, List.set_cons_zero, List.set_cons_succ, yh, yQ]
         rfl
        exact xY (by simp only [z3m, Act.put, List.setIfInBounds_toArray, List.set_cons_zero, List.set_cons_succ]) (hCont (.slice Ao20 t137.length co20, .slice Ao19 t140.length co19, gb143) _ ⟨hHeld, (by exact sA (Kd.xM HO139.out (fun _ hk => hk.2))), (by exact sA (Kd.xM HO142.out (fun _ hk => hk.2))), (by exact rA (Kd.zw HO_5.out (fun _ hk => ⟨hk.1.1.2, ⟨hk.1.2, ⟨hk.1.1.1, hk.2⟩⟩⟩))), (bk BK136), (bk BK143), GW143.out, GE143.out, NB136_143.out, NB143_136.out, (bl HB)⟩)
       ·skip
        refine z3u ?hg (N := 8) ?hd (cs := #[.string (⟨#[]⟩ : ByteArray), .slice none 0 0, .slice none 0 0, .int .i64 0, .slice none 0 0]) (t := 50) ?hr ?_; (case hd => rfl); (case hg => rfl); (case hr => first | (go_simp; done) | (go_simp; rfl))
        intro gb143 hg w18 hbox hb
        have n0_ := aS (Kd.zU (Kd.z2p (by exact rA HO_5.out) gb143 (Nat.le_of_eq hg.symm)) hb)
        have n1_ := aS (Kd.z0R (by exact sA HO139.out) hb)
        have n2_ := aS (zf (bj BK136) hb)
        have n3_ := aS (bs_ (bl HB) hb)
        have n4_ := aS (hbox)
        have n5_ := (gz hg HB : Aside0 (w.heap.size ≤ gb143))
        have n6_ := (gz hg HB : Aside0 (w.heap.size ≤ gb143))
        have n7_ := aS ((by rw [hg]; exact Nat.ne_of_lt (yR (bj BK136)) : gb136 ≠ gb143))
        have n8_ := aS ((by rw [hg]; exact Nat.ne_of_gt (yR (bj BK136)) : gb143 ≠ gb136))
        clear HO_5
        clear HO139
        clear BK136
        clear HB
        have HO_5 := n0_
        have HO139 := n1_
        have BK136 := n2_
        have HB := n3_
        have BK143 := n4_
        have GW143 := n5_
        have GE143 := n6_
        have NB136_143 := n7_
        have NB143_136 := n8_
        clear n0_ n1_ n2_ n3_ n4_ n5_ n6_ n7_ n8_
        clear hb hbox hg
        refine hK.out _ _ ⟨(za BK136.out 0).trans rfl, (za BK136.out 1).trans rfl, (za BK136.out 2).trans rfl, (za BK136.out 3).trans rfl, (za BK136.out 4).trans rfl⟩ (fun hHeld => ?_)
        clear hK K
        refine xY (a' := ?_) ?_ ?_
        rotate_left
        ·show Act.put _ (some 8) _ = _
         simp only [Act.put, List.setIfInBounds_toArray, List.set_cons_zero, List.set_cons_succ, yh, yQ]
         rfl
        refine z0Z (i := 12) (N := some 37) (mk 18 98303) rfl rfl (z0k HT_.out (by kernel_rfl)) (by decide) (fun K hK => ?_)
        refine z1C Tryz.func84 (by kernel_rfl) rfl #[.slice A135_2 ((z8 l0 x6_1).f2).length c135_2] (by rfl) rfl rfl (by (try simp only [List.map_toArray, List.map_cons, List.map_nil]); first | done | rfl | (simp only [List.length_drop, List.length_take]; rfl) | (simp only [ByteArray.size_append, Int.toNat_natCast]; rfl)) ?_
        with_reducible refine (zE.calls kj2 _ _ ((z8 l0 x6_1).f2) t140 _ ?side1 ?side2 A12.out).mono ?_
        (case side1 => exact cb HR135_2 HB)
        (case side2 => exact HC135_2.out)
        rintro e w19 ⟨v141, rfl, ho0, hb⟩
        refine ⟨_, rfl, ?_⟩
        replace HO_5 := aS (Kd.yP (by exact rA HO_5.out) (Kd.z2t ho0) hb)
        have HO142 := aS (Kd.z3t (Kd.z7p ho0 (Kd.zcE (by exact sA HO139.out))) (zg (bl HB)))
        replace HO139 := aS (Kd.z3s (by exact sA HO139.out) (Kd.z2t ho0) hb)
        replace BK136 := bb BK136 hb
        replace BK143 := bb BK143 hb
        replace HB := hB_ HB hb
        obtain ⟨Ao20, co20, eo20⟩ := Kd.z10 HO142.out
        (first | subst eo20 | (injection eo20 with f1_ f2_ f3_; have f4_ := f1_.symm; have f5_ := f3_.symm; clear f1_ f2_ f3_; subst f4_; subst f5_))
        obtain ⟨Ao21, co21, eo21⟩ := Kd.z10 HO139.out
        (first | subst eo21 | (injection eo21 with f1_ f2_ f3_; have f4_ := f1_.symm; have f5_ := f3_.symm; clear f1_ f2_ f3_; subst f4_; subst f5_))
        refine hK.out _ _ ⟨(za BK136.out 0).trans rfl, (za BK136.out 1).trans rfl, (za BK136.out 2).trans rfl, (za BK136.out 3).trans rfl, (za BK136.out 4).trans rfl⟩ (fun hHeld => ?_)
        clear hK K
        refine xY (a' := ?_) ?_ ?_
        rotate_left
        ·show Act.put _ (some 37) _ = _
         simp only [Act.put, List.setIfInBounds_toArray, List.set_cons_zero, List.set_cons_succ, yh, yQ]
         rfl
        refine pv 15 40 (mk 18 131071) ?_
        exact xY (by simp only [z3m, Act.put, List.setIfInBounds_toArray, List.set_cons_zero, List.set_cons_succ]) (hCont (.slice Ao21 t137.length co21, .slice Ao20 t140.length co20, gb143) _ ⟨hHeld, (by exact sA (Kd.xM HO139.out (fun _ hk => hk.2))), (by exact sA (Kd.xM HO142.out (fun _ hk => hk.2))), (by exact rA (Kd.zw HO_5.out (fun _ hk => ⟨hk.1.1.2, ⟨hk.2, ⟨hk.1.1.1, hk.1.2⟩⟩⟩))), (bk BK136), (bk BK143), GW143.out, GE143.out, NB136_143.out, NB143_136.out, (bl HB)⟩)
      ·skip
       refine z3u ?hg (N := 8) ?hd (cs := #[.string (⟨#[]⟩ : ByteArray), .slice none 0 0, .slice none 0 0, .int .i64 0, .slice none 0 0]) (t := 50) ?hr ?_; (case hd => rfl); (case hg => rfl); (case hr => first | (go_simp; done) | (go_simp; rfl))
       intro gb143 hg w17 hbox hb
       have n0_ := aS (Kd.zU (Kd.z2p (by exact rA HO_5.out) gb143 (Nat.le_of_eq hg.symm)) hb)
       have n1_ := aS (zf (bj BK136) hb)
       have n2_ := aS (bs_ (bl HB) hb)
       have n3_ := aS (hbox)
       have n4_ := (gz hg HB : Aside0 (w.heap.size ≤ gb143))
       have n5_ := (gz hg HB : Aside0 (w.heap.size ≤ gb143))
       have n6_ := aS ((by rw [hg]; exact Nat.ne_of_lt (yR (bj BK136)) : gb136 ≠ gb143))
       have n7_ := aS ((by rw [hg]; exact Nat.ne_of_gt (yR (bj BK136)) : gb143 ≠ gb136))
       clear HO_5
       clear BK136
       clear HB
       have HO_5 := n0_
       have BK136 := n1_
       have HB := n2_
       have BK143 := n3_
       have GW143 := n4_
       have GE143 := n5_
       have NB136_143 := n6_
       have NB143_136 := n7_
       clear n0_ n1_ n2_ n3_ n4_ n5_ n6_ n7_
       clear hb hbox hg
       refine hK.out _ _ ⟨(za BK136.out 0).trans rfl, (za BK136.out 1).trans rfl, (za BK136.out 2).trans rfl, (za BK136.out 3).trans rfl, (za BK136.out 4).trans rfl⟩ (fun hHeld => ?_)
       clear hK K
       refine xY (a' := ?_) ?_ ?_
       rotate_left
       ·show Act.put _ (some 8) _ = _
        simp only [Act.put, List.setIfInBounds_toArray, List.set_cons_zero, List.set_cons_succ, yh, yQ]
        rfl
       refine z0Z (i := 9) (N := some 34) (mk 18 94207) rfl rfl (z0k HT_.out (by kernel_rfl)) (by decide) (fun K hK => ?_)
       refine z1C Tryz.func84 (by kernel_rfl) rfl #[.slice A135_1 ((z8 l0 x6_1).f1).length c135_1] (by rfl) rfl rfl (by (try simp only [List.map_toArray, List.map_cons, List.map_nil]); first | done | rfl | (simp only [List.length_drop, List.length_take]; rfl) | (simp only [ByteArray.size_append, Int.toNat_natCast]; rfl)) ?_
       with_reducible refine (zE.calls kj2 _ _ ((z8 l0 x6_1).f1) t137 _ ?side1 ?side2 A11.out).mono ?_
       (case side1 => exact cb HR135_1 HB)
       (case side2 => exact HC135_1.out)
       rintro e w18 ⟨v138, rfl, ho0, hb⟩
       refine ⟨_, rfl, ?_⟩
       replace HO_5 := aS (Kd.yP (by exact rA HO_5.out) (Kd.z2t ho0) hb)
       have HO139 := aS (Kd.z3t ho0 (zg (bl HB)))
       replace BK136 := bb BK136 hb
       replace BK143 := bb BK143 hb
       replace HB := hB_ HB hb
       refine hK.out _ _ ⟨(za BK136.out 0).trans rfl, (za BK136.out 1).trans rfl, (za BK136.out 2).trans rfl, (za BK136.out 3).trans rfl, (za BK136.out 4).trans rfl⟩ (fun hHeld => ?_)
       clear hK K
       refine xY (a' := ?_) ?_ ?_
       rotate_left
       ·show Act.put _ (some 34) _ = _
        simp only [Act.put, List.setIfInBounds_toArray, List.set_cons_zero, List.set_cons_succ, yh, yQ]
        rfl
       refine z0Z (i := 12) (N := some 37) (mk 18 98303) rfl rfl (z0k HT_.out (by kernel_rfl)) (by decide) (fun K hK => ?_)
       refine z1C Tryz.func84 (by kernel_rfl) rfl #[.slice A135_2 ((z8 l0 x6_1).f2).length c135_2] (by rfl) rfl rfl (by (try simp only [List.map_toArray, List.map_cons, List.map_nil]); first | done | rfl | (simp only [List.length_drop, List.length_take]; rfl) | (simp only [ByteArray.size_append, Int.toNat_natCast]; rfl)) ?_
       with_reducible refine (zE.calls kj2 _ _ ((z8 l0 x6_1).f2) t140 _ ?side1 ?side2 A12.out).mono ?_
       (case side1 => exact cb HR135_2 HB)
       (case side2 => exact HC135_2.out)
       rintro e w19 ⟨v141, rfl, ho0, hb⟩
       refine ⟨_, rfl, ?_⟩
       replace HO_5 := aS (Kd.yP (by exact rA HO_5.out) (Kd.z2t ho0) hb)
       have HO142 := aS (Kd.z3t (Kd.z7p ho0 (Kd.zcE (by exact sA HO139.out))) (zg (bl HB)))
       replace HO139 := aS (Kd.z3s (by exact sA HO139.out) (Kd.z2t ho0) hb)
       replace BK136 := bb BK136 hb
       replace BK143 := bb BK143 hb
       replace HB := hB_ HB hb
       obtain ⟨Ao20, co20, eo20⟩ := Kd.z10 HO142.out
       (first | subst eo20 | (injection eo20 with f1_ f2_ f3_; have f4_ := f1_.symm; have f5_ := f3_.symm; clear f1_ f2_ f3_; subst f4_; subst f5_))
       obtain ⟨Ao21, co21, eo21⟩ := Kd.z10 HO139.out
       (first | subst eo21 | (injection eo21 with f1_ f2_ f3_; have f4_ := f1_.symm; have f5_ := f3_.symm; clear f1_ f2_ f3_; subst f4_; subst f5_))
       refine hK.out _ _ ⟨(za BK136.out 0).trans rfl, (za BK136.out 1).trans rfl, (za BK136.out 2).trans rfl, (za BK136.out 3).trans rfl, (za BK136.out 4).trans rfl⟩ (fun hHeld => ?_)
       clear hK K
       refine xY (a' := ?_) ?_ ?_
       rotate_left
       ·show Act.put _ (some 37) _ = _
        simp only [Act.put, List.setIfInBounds_toArray, List.set_cons_zero, List.set_cons_succ, yh, yQ]
        rfl
       refine pv 15 40 (mk 18 131071) ?_
       exact xY (by simp only [z3m, Act.put, List.setIfInBounds_toArray, List.set_cons_zero, List.set_cons_succ]) (hCont (.slice Ao21 t137.length co21, .slice Ao20 t140.length co20, gb143) _ ⟨hHeld, (by exact sA (Kd.xM HO139.out (fun _ hk => hk.2))), (by exact sA (Kd.xM HO142.out (fun _ hk => hk.2))), (by exact rA (Kd.zw HO_5.out (fun _ hk => ⟨hk.1.2, ⟨hk.2, ⟨hk.1.1.1, hk.1.1.2⟩⟩⟩))), (bk BK136), (bk BK143), GW143.out, GE143.out, NB136_143.out, NB143_136.out, (bl HB)⟩)
     rintro ⟨v138, v141, gb143⟩ w22 ⟨hS_, h0_, h1_, h2_, h3_, h4_, h5_, h6_, h7_, h8_, h9_⟩
     have n0_ : Aside0 (Kd.S xC 115 w22 w.heap.size (fun k_ => some k_ ≠ (v141 : Value).ownBlock) v138 t137) := ⟨h0_⟩
     have n1_ : Aside0 (Kd.S xC 115 w22 w.heap.size (fun k_ => some k_ ≠ (v138 : Value).ownBlock) v141 t140) := ⟨h1_⟩
     have n2_ : Aside0 (Kd.R k50 50 w22 w.heap.size (fun k_ => some k_ ≠ (v138 : Value).ownBlock ∧ some k_ ≠ (v141 : Value).ownBlock ∧ k_ ≠ gb136 ∧ k_ ≠ gb143) u5 x5_1) := ⟨h2_⟩
     have n3_ : Aside0 (w22.heap[gb136]? = some (.cells #[.string ((z8 l0 x6_1).f0), .slice A135_1 ((z8 l0 x6_1).f1).length c135_1, .slice A135_2 ((z8 l0 x6_1).f2).length c135_2, .int .i64 ((z8 l0 x6_1).f3), .slice A135_4 ((z8 l0 x6_1).f4).length c135_4] 50 (0, 0))) := ⟨h3_⟩
     have n4_ : Aside0 (w22.heap[gb143]? = some (.cells #[.string (⟨#[]⟩ : ByteArray), .slice none 0 0, .slice none 0 0, .int .i64 0, .slice none 0 0] 50 (0, 0))) := ⟨h4_⟩
     have n5_ : Aside0 (w.heap.size ≤ gb143) := ⟨h5_⟩
     have n6_ : Aside0 (w.heap.size ≤ gb143) := ⟨h6_⟩
     have n7_ : Aside0 (gb136 ≠ gb143) := ⟨h7_⟩
     have n8_ : Aside0 (gb143 ≠ gb136) := ⟨h8_⟩
     have n9_ : Aside0 (Below w.heap.size w w22) := ⟨h9_⟩
     clear HO_5
     clear BK136
     clear HB
     clear h0_ h1_ h2_ h3_ h4_ h5_ h6_ h7_ h8_ h9_
     have HO139 := n0_
     have HO142 := n1_
     have HO_5 := n2_
     have BK136 := n3_
     have BK143 := n4_
     have GW143 := n5_
     have GE143 := n6_
     have NB136_143 := n7_
     have NB143_136 := n8_
     have HB := n9_
     clear n0_ n1_ n2_ n3_ n4_ n5_ n6_ n7_ n8_ n9_
     have hHeld : w22.cell? ⟨gb136, 0, none⟩ = some (.string ((z8 l0 x6_1).f0)) ∧ w22.cell? ⟨gb136, 1, none⟩ = some (.slice A135_1 ((z8 l0 x6_1).f1).length c135_1) ∧ w22.cell? ⟨gb136, 2, none⟩ = some (.slice A135_2 ((z8 l0 x6_1).f2).length c135_2) ∧ w22.cell? ⟨gb136, 3, none⟩ = some (.int .i64 ((z8 l0 x6_1).f3)) ∧ w22.cell? ⟨gb136, 4, none⟩ = some (.slice A135_4 ((z8 l0 x6_1).f4).length c135_4) := hS_
     obtain ⟨Ao23, co23, eo23⟩ := Kd.z10 HO142.out
     (first | subst eo23 | (injection eo23 with f1_ f2_ f3_; have f4_ := f1_.symm; have f5_ := f3_.symm; clear f1_ f2_ f3_; subst f4_; subst f5_))
     obtain ⟨Ao24, co24, eo24⟩ := Kd.z10 HO139.out
     (first | subst eo24 | (injection eo24 with f1_ f2_ f3_; have f4_ := f1_.symm; have f5_ := f3_.symm; clear f1_ f2_ f3_; subst f4_; subst f5_))
     refine xY (a' := ?_) ?_ ?_
     rotate_left
     ·simp only [z3m, Act.put, List.setIfInBounds_toArray, List.set_cons_zero, List.set_cons_succ]
      rfl
     refine z0Z (i := 17) (N := none) (mk 18 262143) rfl rfl (z0k HT_.out (by kernel_rfl)) (by decide) (fun K hK => ?_)
     have hs25 : w22.cell? ⟨gb143, 0, none⟩ = some (.string (⟨#[]⟩ : ByteArray)) := (za BK143.out 0).trans rfl
     have hfs25 := zn BK143.out 0
     have hns25_0 := NB136_143.out
     have hms25_0 := NB143_136.out
     have hs26 : w22.cell? ⟨gb143, 1, none⟩ = some (.slice none 0 0) := (za BK143.out 1).trans rfl
     have hfs26 := zn BK143.out 1
     have hns26_0 := NB136_143.out
     have hms26_0 := NB143_136.out
     have hs27 : w22.cell? ⟨gb143, 2, none⟩ = some (.slice none 0 0) := (za BK143.out 2).trans rfl
     have hfs27 := zn BK143.out 2
     have hns27_0 := NB136_143.out
     have hms27_0 := NB143_136.out
     have hs28 : w22.cell? ⟨gb143, 3, none⟩ = some (.int .i64 0) := (za BK143.out 3).trans rfl
     have hfs28 := zn BK143.out 3
     have hns28_0 := NB136_143.out
     have hms28_0 := NB143_136.out
     have hs29 : w22.cell? ⟨gb143, 4, none⟩ = some (.slice none 0 0) := (za BK143.out 4).trans rfl
     have hfs29 := zn BK143.out 4
     have hns29_0 := NB136_143.out
     have hms29_0 := NB143_136.out
     refine z1Z (w1 := ?_) (by rfl) rfl ?_ ?_
     rotate_left
     ·go_simp
      rfl
     refine hK.out _ _ ⟨((cell_far (p := ⟨gb143, _, none⟩) NB136_143.out _).trans (((cell_far (p := ⟨gb143, _, none⟩) NB136_143.out _).trans (((cell_far (p := ⟨gb143, _, none⟩) NB136_143.out _).trans (((cell_far (p := ⟨gb143, _, none⟩) NB136_143.out _).trans (((cell_far (p := ⟨gb143, _, none⟩) NB136_143.out _).trans (hHeld.1)))))))))), ((cell_far (p := ⟨gb143, _, none⟩) NB136_143.out _).trans (((cell_far (p := ⟨gb143, _, none⟩) NB136_143.out _).trans (((cell_far (p := ⟨gb143, _, none⟩) NB136_143.out _).trans (((cell_far (p := ⟨gb143, _, none⟩) NB136_143.out _).trans (((cell_far (p := ⟨gb143, _, none⟩) NB136_143.out _).trans (hHeld.2.1)))))))))), ((cell_far (p := ⟨gb143, _, none⟩) NB136_143.out _).trans (((cell_far (p := ⟨gb143, _, none⟩) NB136_143.out _).trans (((cell_far (p := ⟨gb143, _, none⟩) NB136_143.out _).trans (((cell_far (p := ⟨gb143, _, none⟩) NB136_143.out _).trans (((cell_far (p := ⟨gb143, _, none⟩) NB136_143.out _).trans (hHeld.2.2.1)))))))))), ((cell_far (p := ⟨gb143, _, none⟩) NB136_143.out _).trans (((cell_far (p := ⟨gb143, _, none⟩) NB136_143.out _).trans (((cell_far (p := ⟨gb143, _, none⟩) NB136_143.out _).trans (((cell_far (p := ⟨gb143, _, none⟩) NB136_143.out _).trans (((cell_far (p := ⟨gb143, _, none⟩) NB136_143.out _).trans (hHeld.2.2.2.1)))))))))), ((cell_far (p := ⟨gb143, _, none⟩) NB136_143.out _).trans (((cell_far (p := ⟨gb143, _, none⟩) NB136_143.out _).trans (((cell_far (p := ⟨gb143, _, none⟩) NB136_143.out _).trans (((cell_far (p := ⟨gb143, _, none⟩) NB136_143.out _).trans (((cell_far (p := ⟨gb143, _, none⟩) NB136_143.out _).trans (hHeld.2.2.2.2))))))))))⟩ (fun hHeld => ?_)
     clear hK K
     refine z1U (z1L HT_.out (by kernel_rfl)) ?_
     try go_wp2
     go_loopg [1, 9] kj2 (fun kq v1 v9 w' => ∃ (x1_3 : Int) (x9_3 : Int) (x144004_3 : List (S63)) (u144004 : Value), v1 = .int .i64 x1_3 ∧ v9 = .int .i64 x9_3 ∧ Aside0 (zm.l1 kq l0 x1_3 x5_1 x6_1 x9_3 ((z8 l0 x6_1).f0) ((z8 l0 x6_1).f1) ((z8 l0 x6_1).f2) ((z8 l0 x6_1).f3) ((z8 l0 x6_1).f4) (((z8 l0 x6_1).f0).extract 0 ((ji8) : Int).toNat) t137 t140 ((z8 l0 x6_1).f3) x144004_3 = some r) ∧ Aside0 (kq ≤ kj2) ∧ Aside0 (Kd.R k50 50 w' w.heap.size (fun k_ => some k_ ≠ ((.slice Ao24 t137.length co24) : Value).ownBlock ∧ some k_ ≠ ((.slice Ao23 t140.length co23) : Value).ownBlock ∧ some k_ ≠ (u144004 : Value).ownBlock ∧ k_ ≠ gb136 ∧ k_ ≠ gb143) u5 x5_1) ∧ Aside0 (Kd.S xC 115 w' w.heap.size (fun k_ => some k_ ≠ ((.slice Ao23 t140.length co23) : Value).ownBlock) (.slice Ao24 t137.length co24) t137) ∧ Aside0 (Kd.S xC 115 w' w.heap.size (fun k_ => some k_ ≠ ((.slice Ao24 t137.length co24) : Value).ownBlock) (.slice Ao23 t140.length co23) t140) ∧ Aside0 (Kd.S k63 63 w' w.heap.size (fun _ => True) u144004 x144004_3) ∧ Aside0 (w'.heap[gb136]? = some (.cells #[.string ((z8 l0 x6_1).f0), (.slice A135_1 ((z8 l0 x6_1).f1).length c135_1), (.slice A135_2 ((z8 l0 x6_1).f2).length c135_2), .int .i64 ((z8 l0 x6_1).f3), (.slice A135_4 ((z8 l0 x6_1).f4).length c135_4)] 50 (0, 0))) ∧ Aside0 (w'.heap[gb143]? = some (.cells #[.string (((z8 l0 x6_1).f0).extract 0 ((ji8) : Int).toNat), (.slice Ao24 t137.length co24), (.slice Ao23 t140.length co23), .int .i64 ((z8 l0 x6_1).f3), u144004] 50 (0, 0))) ∧ Aside0 (Below w.heap.size w w'))
     case atStart => exact ⟨(x1_1), (0), (([] : List (S63))), (.slice none 0 0), rs, rs, H', ⟨Nat.le_refl _⟩, ⟨by exact Kd.zw (rF (Kd.zw HO_5.out (fun k_ hk => (⟨hk, hk.2.2.2⟩ : _ ∧ k_ ≠ gb143)))) (fun _ hk => ⟨hk.1.1, ⟨hk.1.2.1, ⟨(by simp [Value.ownBlock]), ⟨hk.1.2.2.1, hk.1.2.2.2⟩⟩⟩⟩)⟩, ⟨by exact Kd.xM (sF (Kd.z1s HO139.out BK143.out (by decide))) (fun _ hk => hk.1)⟩, ⟨by exact Kd.xM (sF (Kd.z1s HO142.out BK143.out (by decide))) (fun _ hk => hk.1)⟩, ⟨by first | exact Kd.z2u _ _ _ _ _ | exact Kd.z2l _ _ _ _ _ | exact Kd.z2w _ _ _ _ _ | exact Kd.z2o _ _ _ _ _ | exact Kd.z0l _ _ _ _ _⟩, ⟨bp BK136⟩, ⟨bp BK143⟩, ⟨bl HB⟩⟩
     case round =>
      clear H'
      obtain ⟨x1_3, x9_3, x144004_3, u144004, rfl, rfl, HA, HK3, HO_5, HO_144001, HO_144002, HO_144004, BK136, BK143, HB⟩ := hrel
      cases gk with
      | zero => exact absurd HA.out (by simp [zm.l1])
      | succ k3 =>
       have H := HA.out
       clear HA
       simp only [zm.l1] at H
       by_cases c30 : x9_3 < (((z8 l0 x6_1).f4).length : Int)
       focus
        rw [if_pos c30] at H
        have c30b0 := dT c30
        clear c30
        by_cases c31 : x1_3 > 0
        focus
         rw [if_pos c31] at H
         have c31b0 := dT c31
         clear c31
         replace H := iD_ H
         obtain ⟨c32b0, H⟩ := H
         replace H := bS H
         obtain ⟨⟨t146, t147, t148, t151, t154⟩, A330, H⟩ := H
         (try dsimp only at H)
         have A33 := aS A330
         clear A330
         replace H := iN_ H
         obtain ⟨c34, H⟩ := H
         have LMc34 := aS c34
         clear c34
         obtain ⟨y155, Ny155⟩ := yE (x144004_3 ++ [(⟨(zb ((z8 l0 x6_1).f4) x9_3).f0, (zb ((z8 l0 x6_1).f4) x9_3).f1, (zb ((z8 l0 x6_1).f4) x9_3).f2, (zb ((z8 l0 x6_1).f4) x9_3).f3, (⟨t146, t147, t148, t151⟩ : S61)⟩ : S63)] : List (S63))
         rw [← Ny155.out] at H
         have H' := aS H
         clear H
         have hnb35 := NB136_143.out
         have hnc35 := NB143_136.out
         obtain ⟨_, _, _, _, _, _, _, _, _, _⟩ := cf5 BK136.out
         obtain ⟨ad144, A144_6, c144_6, A144_7, c144_7, e144, hx144_0, hx144_1, hx144_2, hx144_3, hx144_4, hx144_5, hx144_6, hx144_7, hl144_6, hi144_6, hl144_7, hi144_7⟩ := z0j HR135_4.out x9_3 oa oa
         cases e144
         replace hx144_0 := xb HB hx144_0
         replace hx144_1 := xb HB hx144_1
         replace hx144_2 := xb HB hx144_2
         replace hx144_3 := xb HB hx144_3
         replace hx144_4 := xb HB hx144_4
         replace hx144_5 := xb HB hx144_5
         replace hx144_6 := xb HB hx144_6
         replace hx144_7 := xb HB hx144_7
         have HR144_6 := aS hi144_6
         have HC144_6 := aS hl144_6
         clear hi144_6 hl144_6
         have HR144_7 := aS hi144_7
         have HC144_7 := aS hl144_7
         clear hi144_7 hl144_7
         have p144 : (0 ≤ (x9_3 : Int)) = True := tO
         have q144 : (x9_3 < (((z8 l0 x6_1).f4).length : Int)) = True := tO
        rotate_left 1
        focus
         rw [if_neg c31] at H
         have c31b0 := dF c31
         clear c31
         replace H := iN_ H
         obtain ⟨c51, H⟩ := H
         have LMc51 := aS c51
         clear c51
         obtain ⟨y158, Ny158⟩ := yE (x5_1 ++ [(⟨(((z8 l0 x6_1).f0).extract 0 ((ji8) : Int).toNat), t137, t140, ((z8 l0 x6_1).f3), x144004_3⟩ : S50)] : List (S50))
         rw [← Ny158.out] at H
         have H' := aS H
         clear H
         have hnb52 := NB136_143.out
         have hnc52 := NB143_136.out
         obtain ⟨_, _, _, _, _, _, _, _, _, _⟩ := cf5 BK136.out
         obtain ⟨_, _, _, _, _, _, _, _, _, _⟩ := cf5 BK143.out
         obtain ⟨Ao56, co56, eo56⟩ := Kd.z10 HO_144004.out
         subst eo56
        rotate_left 1
       rotate_left 2
       focus
        rw [if_neg c30] at H
        have c30b0 := dF c30
        clear c30
        replace H := iN_ H
        obtain ⟨c57, H⟩ := H
        have LMc57 := aS c57
        clear c57
        obtain ⟨y161, Ny161⟩ := yE (x5_1 ++ [(⟨(((z8 l0 x6_1).f0).extract 0 ((ji8) : Int).toNat), t137, t140, ((z8 l0 x6_1).f3), x144004_3⟩ : S50)] : List (S50))
        rw [← Ny161.out] at H
        have H' := aS H
        clear H
        have hnb58 := NB136_143.out
        have hnc58 := NB143_136.out
        obtain ⟨_, _, _, _, _, _, _, _, _, _⟩ := cf5 BK136.out
        obtain ⟨_, _, _, _, _, _, _, _, _, _⟩ := cf5 BK143.out
        obtain ⟨Ao62, co62, eo62⟩ := Kd.z10 HO_144004.out
        subst eo62
       rotate_left 1
       all_goals (go_wp2_with (first | ((with_reducible refine zq (N := 10) rfl ?_); refine bx (N := 10) (cs := #[.int .i64 0, .int .i64 0, .int .i64 0, .int .i64 0, .int .i64 0, .bool false, .slice none 0 0, .slice none 0 0]) (t := 63) ?_; intro gb145 hg wq1 hbox hb; have n0_ := aS (Kd.zU (Kd.z2p (by exact rA HO_5.out) gb145 (Nat.le_of_eq hg.symm)) hb); have n1_ := aS (Kd.z0R (by exact sA HO_144001.out) hb); have n2_ := aS (Kd.z0R (by exact sA HO_144002.out) hb); have n3_ := aS (Kd.z0R (Kd.z9Q (by exact sA HO_144004.out) gb145 (Nat.le_of_eq hg.symm)) hb); have n4_ := aS (zf (bj BK136) hb); have n5_ := aS (zf (bj BK143) hb); have n6_ := aS (bs_ (bl HB) hb); have n7_ := aS (hbox); have n8_ := (gz hg HB : Aside0 (w.heap.size ≤ gb145)); have n9_ := (gz hg HB : Aside0 (w.heap.size ≤ gb145)); have n10_ := aS ((by rw [hg]; exact Nat.ne_of_lt (yR (bj BK136)) : gb136 ≠ gb145)); have n11_ := aS ((by rw [hg]; exact Nat.ne_of_gt (yR (bj BK136)) : gb145 ≠ gb136)); have n12_ := aS ((by rw [hg]; exact Nat.ne_of_lt (yR (bj BK143)) : gb143 ≠ gb145)); have n13_ := aS ((by rw [hg]; exact Nat.ne_of_gt (yR (bj BK143)) : gb145 ≠ gb143)); clear HO_5; clear HO_144001; clear HO_144002; clear HO_144004; clear BK136; clear BK143; clear HB; have HO_5 := n0_; have HO_144001 := n1_; have HO_144002 := n2_; have HO_144004 := n3_; have BK136 := n4_; have BK143 := n5_; have HB := n6_; have BK145 := n7_; have GW145 := n8_; have GE145 := n9_; have NB136_145 := n10_; have NB145_136 := n11_; have NB143_145 := n12_; have NB145_143 := n13_; clear n0_ n1_ n2_ n3_ n4_ n5_ n6_ n7_ n8_ n9_ n10_ n11_ n12_ n13_; clear hb hbox hg; have hnb38 := NB145_136.out; have hnc38 := NB136_145.out; have hnb39 := NB145_143.out; have hnc39 := NB143_145.out; obtain ⟨_, _, _, _, _, _, _, _, _, _, _, _, _, _, _, _⟩ := cf8 BK145.out) | ((with_reducible refine zi (f := 85) rfl ?_); refine gl 60 Tryz.func85 #[.agg #[.int .i64 ((zb ((z8 l0 x6_1).f4) x9_3).f4.f0), .bool ((zb ((z8 l0 x6_1).f4) x9_3).f4.f1), .slice A144_6 ((zb ((z8 l0 x6_1).f4) x9_3).f4.f2).length c144_6, .slice A144_7 ((zb ((z8 l0 x6_1).f4) x9_3).f4.f3).length c144_7], .int .i64 260] ?_; (with_reducible refine (zy.calls ((zb ((z8 l0 x6_1).f4) x9_3).f4.f0) ((zb ((z8 l0 x6_1).f4) x9_3).f4.f1) _ _ ((zb ((z8 l0 x6_1).f4) x9_3).f4.f2) _ _ ((zb ((z8 l0 x6_1).f4) x9_3).f4.f3) 260 t146 t147 t148 t151 t154 _ ?side1 ?side2 ?side3 ?side4 A33.out).mono ?_); (case side1 => exact Kd.zK HR144_6.out (bl HB)); (case side2 => exact HC144_6.out); (case side3 => exact Kd.zK HR144_7.out (bl HB)); (case side4 => exact HC144_7.out); rintro e wq2 ⟨v149, v152, rfl, ho0, ho1, hb⟩; refine ⟨_, rfl, ?_⟩; replace HO_5 := aS (Kd.zw (Kd.z9O (Kd.z9O (Kd.zdj (by exact (Kd.zw (rF (Kd.zw HO_5.out (fun k_ hk => (⟨hk, hk.2⟩ : _ ∧ k_ ≠ gb145)))) (fun _ h_ => h_.1))) hb) (Kd.yf ho0)) (Kd.yf ho1)) (fun _ h_ => h_.1)); replace HO_144001 := aS (Kd.z0R (by exact (Kd.xM (sF (Kd.z1s HO_144001.out BK145.out (by decide))) (fun _ h_ => h_.1))) hb); replace HO_144002 := aS (Kd.z0R (by exact (Kd.xM (sF (Kd.z1s HO_144002.out BK145.out (by decide))) (fun _ h_ => h_.1))) hb); replace HO_144004 := aS (Kd.xM (Kd.z9S (Kd.z9S (Kd.zdm (by exact (Kd.xM (sF (Kd.xM HO_144004.out (fun k_ hk => (⟨hk, hk.2⟩ : _ ∧ k_ ≠ gb145)))) (fun _ h_ => h_.1))) hb) (Kd.yf ho0)) (Kd.yf ho1)) (fun _ h_ => h_.1)); have HO150 := aS (Kd.zL ho0 (zg (bl HB))); have HO153 := aS (Kd.zL ho1 (zg (bl HB))); replace BK136 := bb BK136 hb; replace BK143 := bb BK143 hb; replace BK145 := aS (zf (g := gb145) (o := .cells #[.int .i64 ((zb ((z8 l0 x6_1).f4) x9_3).f0), .int .i64 ((zb ((z8 l0 x6_1).f4) x9_3).f1), .int .i64 ((zb ((z8 l0 x6_1).f4) x9_3).f2), .int .i64 ((zb ((z8 l0 x6_1).f4) x9_3).f3), .int .i64 ((zb ((z8 l0 x6_1).f4) x9_3).f4.f0), .bool ((zb ((z8 l0 x6_1).f4) x9_3).f4.f1), .slice A144_6 ((zb ((z8 l0 x6_1).f4) x9_3).f4.f2).length c144_6, .slice A144_7 ((zb ((z8 l0 x6_1).f4) x9_3).f4.f3).length c144_7] 63 (0, 0)) (bp BK145) hb); replace HB := hB_ HB hb; clear hb ho0; obtain ⟨_, _, _, _, _, _, _, _, _, _, _, _, _, _, _, _⟩ := cf8 BK145.out; obtain ⟨Aoq1, coq1, eoq1⟩ := Kd.zB HO150.out; subst eoq1; obtain ⟨Aoq2, coq2, eoq2⟩ := Kd.zB HO153.out; subst eoq2) | ((with_reducible refine xJ (t := 61) (p := 63) rfl ?_); refine xA (t := 61) (p := 63) (v := ?vo_w45) (w1 := ((((wq2.setCell ⟨gb145, 4, none⟩ (.int .i64 t146)).setCell ⟨gb145, 5, none⟩ (.bool t147)).setCell ⟨gb145, 6, none⟩ (.slice Aoq1 t148.length coq1)).setCell ⟨gb145, 7, none⟩ (.slice Aoq2 t151.length coq2))) ?hg ?ho ?hn ?hr ?_; (case ho => rfl); (case hg => rfl); (case hn => rfl); (case hr => first | (go_simp; done) | (go_simp; rfl)); intro wq3 hw; have n0_ : Aside0 (Kd.R k50 50 wq3 w.heap.size (fun k_ => some k_ ≠ (.slice Ao24 t137.length co24 : Value).ownBlock ∧ some k_ ≠ (.slice Ao23 t140.length co23 : Value).ownBlock ∧ some k_ ≠ (u144004 : Value).ownBlock ∧ some k_ ≠ (.slice Aoq1 t148.length coq1 : Value).ownBlock ∧ some k_ ≠ (.slice Aoq2 t151.length coq2 : Value).ownBlock ∧ k_ ≠ gb136 ∧ k_ ≠ gb143 ∧ k_ ≠ gb145) u5 x5_1) := ⟨(by rw [hw]; exact (by exact Kd.zw (rF (Kd.zw HO_5.out (fun k_ hk => (⟨hk, hk.1.1.2⟩ : _ ∧ k_ ≠ gb145)))) (fun _ hk => ⟨hk.1.1.1.1.1, ⟨hk.1.1.1.1.2.1, ⟨hk.1.1.1.1.2.2.1, ⟨hk.1.1.2, ⟨hk.1.2, ⟨hk.1.1.1.1.2.2.2.1, ⟨hk.1.1.1.1.2.2.2.2, hk.1.1.1.2⟩⟩⟩⟩⟩⟩⟩)))⟩; have n1_ : Aside0 (Kd.S xC 115 wq3 w.heap.size (fun k_ => some k_ ≠ (.slice Ao23 t140.length co23 : Value).ownBlock) (.slice Ao24 t137.length co24) t137) := ⟨(by rw [hw]; exact (by exact Kd.xM (sF (Kd.z1s HO_144001.out BK145.out (by decide))) (fun _ hk => hk.1)))⟩; have n2_ : Aside0 (Kd.S xC 115 wq3 w.heap.size (fun k_ => some k_ ≠ (.slice Ao24 t137.length co24 : Value).ownBlock) (.slice Ao23 t140.length co23) t140) := ⟨(by rw [hw]; exact (by exact Kd.xM (sF (Kd.z1s HO_144002.out BK145.out (by decide))) (fun _ hk => hk.1)))⟩; have n3_ : Aside0 (Kd.S k63 63 wq3 w.heap.size (fun k_ => some k_ ≠ (.slice Aoq1 t148.length coq1 : Value).ownBlock ∧ some k_ ≠ (.slice Aoq2 t151.length coq2 : Value).ownBlock ∧ k_ ≠ gb145) u144004 x144004_3) := ⟨(by rw [hw]; exact (by exact Kd.xM (sF (Kd.xM HO_144004.out (fun k_ hk => (⟨hk, hk.1.1.2⟩ : _ ∧ k_ ≠ gb145)))) (fun _ hk => ⟨hk.1.1.2, ⟨hk.1.2, hk.1.1.1.2⟩⟩)))⟩; have n4_ : Aside0 (Kd.R (Kd.int .u32) 145 wq3 w.heap.size (fun k_ => some k_ ≠ (.slice Aoq2 t151.length coq2 : Value).ownBlock) (.slice Aoq1 t148.length coq1) t148) := ⟨(by rw [hw]; exact (by exact Kd.zw (rF (Kd.xh HO150.out BK145.out (by decide))) (fun _ hk => hk.1)))⟩; have n5_ : Aside0 (Kd.R (Kd.int .u32) 145 wq3 w.heap.size (fun k_ => some k_ ≠ (.slice Aoq1 t148.length coq1 : Value).ownBlock) (.slice Aoq2 t151.length coq2) t151) := ⟨(by rw [hw]; exact (by exact Kd.zw (rF (Kd.xh HO153.out BK145.out (by decide))) (fun _ hk => hk.1)))⟩; have n6_ := bw hw BK136; have n7_ := bw hw BK143; have n8_ : Aside0 (wq3.heap[gb145]? = some (.cells #[.int .i64 ((zb ((z8 l0 x6_1).f4) x9_3).f0), .int .i64 ((zb ((z8 l0 x6_1).f4) x9_3).f1), .int .i64 ((zb ((z8 l0 x6_1).f4) x9_3).f2), .int .i64 ((zb ((z8 l0 x6_1).f4) x9_3).f3), .int .i64 t146, .bool t147, .slice Aoq1 t148.length coq1, .slice Aoq2 t151.length coq2] 63 (0, 0))) := ⟨(by rw [hw]; exact (bp BK145))⟩; have n9_ : Aside0 (Below w.heap.size w wq3) := ⟨(by rw [hw]; exact (bl HB))⟩; clear hw; clear HO_5; clear HO_144001; clear HO_144002; clear HO_144004; clear HO150; clear HO153; clear BK136; clear BK143; clear BK145; clear HB; have HO_5 := n0_; have HO_144001 := n1_; have HO_144002 := n2_; have HO_144004 := n3_; have HO150 := n4_; have HO153 := n5_; have BK136 := n6_; have BK143 := n7_; have BK145 := n8_; have HB := n9_; clear n0_ n1_ n2_ n3_ n4_ n5_ n6_ n7_ n8_ n9_; obtain ⟨_, _, _, _, _, _, _, _, _, _⟩ := cf5 BK143.out; obtain ⟨_, _, _, _, _, _, _, _, _, _, _, _, _, _, _, _⟩ := cf8 BK145.out) | ((with_reducible refine yV (b := .append) (xs := #[.tmp 65, .tmp 67]) rfl ?_); at_builtin; refine Kd.z6z k63 (w0 := w) w.heap.size rfl (.tmp 65) (.tmp 67) 48 63 (.agg #[(.int .i64 0), (.int .i64 0), (.int .i64 0), (.int .i64 0), (.int .i64 0), (.bool false), (.slice none 0 0), (.slice none 0 0)]) 96 rfl Tryz.underlying48 z7K rfl (by decide) (by omega) u144004 x144004_3 (⟨(zb ((z8 l0 x6_1).f4) x9_3).f0, (zb ((z8 l0 x6_1).f4) x9_3).f1, (zb ((z8 l0 x6_1).f4) x9_3).f2, (zb ((z8 l0 x6_1).f4) x9_3).f3, (⟨t146, t147, t148, t151⟩ : S61)⟩ : S63) [.int .i64 ((zb ((z8 l0 x6_1).f4) x9_3).f0), .int .i64 ((zb ((z8 l0 x6_1).f4) x9_3).f1), .int .i64 ((zb ((z8 l0 x6_1).f4) x9_3).f2), .int .i64 ((zb ((z8 l0 x6_1).f4) x9_3).f3), .int .i64 t146, .bool t147, .slice Aoq1 t148.length coq1, .slice Aoq2 t151.length coq2] (fun k_ => k_ ≠ gb145) (fun k_ => some k_ = (.slice Aoq1 t148.length coq1 : Value).ownBlock ∨ some k_ = (.slice Aoq2 t151.length coq2 : Value).ownBlock) rfl rfl ?aP (fun k_ hk_ => hk_.elim (fun h_ => ((Kd.zw (ok' := fun k_ => ((fun k_ => k_ ≠ gb145)) k_ ∧ some k_ ≠ (u144004 : Value).ownBlock) (Kd.xh (Kd.z0t (HO150.out) (Kd.z1I HO_144004.out) (by decide)) BK145.out (by decide)) (fun k_ hk => ⟨hk.2, hk.1.2⟩))).1 k_ h_.symm) (fun h_ => ((Kd.zw (ok' := fun k_ => ((fun k_ => k_ ≠ gb145)) k_ ∧ some k_ ≠ (u144004 : Value).ownBlock) (Kd.xh (Kd.z0t (HO153.out) (Kd.z1I HO_144004.out) (by decide)) BK145.out (by decide)) (fun k_ hk => ⟨hk.2, hk.1.2⟩))).1 k_ h_.symm)) ?aF ?aO ?aB ?aS ?aL ?_; (case aP => exact z6o _ _ _ (⟨(zb ((z8 l0 x6_1).f4) x9_3).f0, (zb ((z8 l0 x6_1).f4) x9_3).f1, (zb ((z8 l0 x6_1).f4) x9_3).f2, (zb ((z8 l0 x6_1).f4) x9_3).f3, (⟨t146, t147, t148, t151⟩ : S61)⟩ : S63) (Kd.zw (Kd.z0Q rfl (Kd.zw (ok' := fun k_ => ((fun k_ => k_ ≠ gb145)) k_ ∧ some k_ ≠ (u144004 : Value).ownBlock) (Kd.xh (Kd.z0t (HO150.out) (Kd.z1I HO_144004.out) (by decide)) BK145.out (by decide)) (fun k_ hk => ⟨hk.2, hk.1.2⟩))) (fun _ h_ => Or.inl h_)) (Kd.zw (Kd.z0Q rfl (Kd.zw (ok' := fun k_ => ((fun k_ => k_ ≠ gb145)) k_ ∧ some k_ ≠ (u144004 : Value).ownBlock) (Kd.xh (Kd.z0t (HO153.out) (Kd.z1I HO_144004.out) (by decide)) BK145.out (by decide)) (fun k_ hk => ⟨hk.2, hk.1.2⟩))) (fun _ h_ => Or.inr (h_)))); (case aB => exact (bl HB)); (case aF => exact (fun k_ hk => Kd.z4N (bj BK145) k_ hk)); (case aO => exact (by exact sA (Kd.xM HO_144004.out (fun k_ hk => ⟨hk.2.2, fun e_ => e_.elim (fun h_ => hk.1 h_) (fun h_ => hk.2.1 h_)⟩)))); (case aS => exact (zg (bl HB))); (case aL => have := LMc34.out; omega); intro v156 wq4 ho hb hg hat; rw [← Ny155.out] at ho; replace HO_5 := aS (Kd.z3r (ok := (fun k_ => some k_ ≠ (.slice Ao24 t137.length co24 : Value).ownBlock ∧ some k_ ≠ (.slice Ao23 t140.length co23 : Value).ownBlock ∧ some k_ ≠ (.slice Aoq1 t148.length coq1 : Value).ownBlock ∧ some k_ ≠ (.slice Aoq2 t151.length coq2 : Value).ownBlock ∧ k_ ≠ gb136 ∧ k_ ≠ gb143 ∧ k_ ≠ gb145)) (by exact rA (Kd.zw HO_5.out (fun _ hk => ⟨⟨hk.1, ⟨hk.2.1, ⟨hk.2.2.2.1, ⟨hk.2.2.2.2.1, ⟨hk.2.2.2.2.2.1, ⟨hk.2.2.2.2.2.2.1, hk.2.2.2.2.2.2.2⟩⟩⟩⟩⟩⟩, hk.2.2.1⟩))) hg hat); replace HO_144001 := aS (Kd.z8h (by exact sA HO_144001.out) (Kd.z1I (by exact sA HO_144004.out)) (by decide) hg); replace HO_144002 := aS (Kd.z8h (by exact sA HO_144002.out) (Kd.z1I (by exact sA HO_144004.out)) (by decide) hg); replace BK136 := aS (yX (bj BK136) hg (Kd.zdl HO_144004.out BK136.out (by decide))); replace BK143 := aS (yX (bj BK143) hg (Kd.zdl HO_144004.out BK143.out (by decide))); replace BK145 := aS (yX (bj BK145) hg (Kd.zcD HO_144004.out (fun _ hk => hk.2.2))); replace HB := aS (hb); have HO157 := aS (ho); clear HO_144004 HO150 HO153; clear ho hb hg hat; obtain ⟨Aoq3, coq3, eoq3⟩ := Kd.z10 HO157.out; subst eoq3; obtain ⟨_, _, _, _, _, _, _, _, _, _⟩ := cf5 BK143.out) | ((with_reducible refine yV (b := .append) (xs := #[.tmp 72, .tmp 74]) rfl ?_); at_builtin; refine Kd.z0C k50 (w0 := w) w.heap.size rfl (.tmp 72) (.tmp 74) 22 50 (.agg #[(.string ⟨#[]⟩), (.slice none 0 0), (.slice none 0 0), (.int .i64 0), (.slice none 0 0)]) 96 rfl Tryz.underlying22 z7J rfl (by decide) (by omega) u5 x5_1 (⟨(((z8 l0 x6_1).f0).extract 0 ((ji8) : Int).toNat), t137, t140, ((z8 l0 x6_1).f3), x144004_3⟩ : S50) [.string (((z8 l0 x6_1).f0).extract 0 ((ji8) : Int).toNat), .slice Ao24 t137.length co24, .slice Ao23 t140.length co23, .int .i64 ((z8 l0 x6_1).f3), .slice Ao56 x144004_3.length co56] (fun k_ => k_ ≠ gb136 ∧ k_ ≠ gb143) (fun k_ => ((fun k_ => k_ ≠ gb136 ∧ k_ ≠ gb143)) k_ ∧ some k_ ≠ (u5 : Value).ownBlock) rfl rfl ?aP (fun _ hk => hk) ?aF ?aO ?aB ?aS ?aL ?_; (case aP => exact z6n _ _ _ (⟨(((z8 l0 x6_1).f0).extract 0 ((ji8) : Int).toNat), t137, t140, ((z8 l0 x6_1).f3), x144004_3⟩ : S50) (Kd.zw (Kd.xh (Kd.xh (Kd.z0t ((Kd.S_R HO_144001.out)) (Kd.z0I HO_5.out) (by decide)) BK136.out (by decide)) BK143.out (by decide)) (fun k_ hk => ⟨⟨hk.1.2, hk.2⟩, hk.1.1.2⟩)) (Kd.zw (Kd.xh (Kd.xh (Kd.z0t ((Kd.S_R HO_144002.out)) (Kd.z0I HO_5.out) (by decide)) BK136.out (by decide)) BK143.out (by decide)) (fun k_ hk => ⟨⟨hk.1.2, hk.2⟩, hk.1.1.2⟩)) (Kd.zw (Kd.xh (Kd.xh (Kd.z0t ((Kd.S_R HO_144004.out)) (Kd.z0I HO_5.out) (by decide)) BK136.out (by decide)) BK143.out (by decide)) (fun k_ hk => ⟨⟨hk.1.2, hk.2⟩, hk.1.1.2⟩))); (case aB => exact (bl HB)); (case aF => exact (fun k_ hk => ⟨Kd.z4N (bj BK136) k_ hk, Kd.z4N (bj BK143) k_ hk⟩)); (case aO => exact (by exact rA (Kd.zw HO_5.out (fun _ hk => ⟨hk.2.2.2.1, hk.2.2.2.2⟩)))); (case aS => exact (zg (bl HB))); (case aL => have := LMc51.out; omega); intro v159 wq1 ho hb hg hat; rw [← Ny158.out] at ho; replace BK136 := aS (yX (bj BK136) hg (Kd.z4C HO_5.out (fun _ hk => hk.2.2.2.1))); replace BK143 := aS (yX (bj BK143) hg (Kd.z4C HO_5.out (fun _ hk => hk.2.2.2.2))); replace HB := aS (hb); have HO160 := aS (ho); clear HO_5 HO_144001 HO_144002 HO_144004; clear ho hb hg hat) | ((with_reducible refine yV (b := .append) (xs := #[.tmp 72, .tmp 74]) rfl ?_); at_builtin; refine Kd.z0C k50 (w0 := w) w.heap.size rfl (.tmp 72) (.tmp 74) 22 50 (.agg #[(.string ⟨#[]⟩), (.slice none 0 0), (.slice none 0 0), (.int .i64 0), (.slice none 0 0)]) 96 rfl Tryz.underlying22 z7J rfl (by decide) (by omega) u5 x5_1 (⟨(((z8 l0 x6_1).f0).extract 0 ((ji8) : Int).toNat), t137, t140, ((z8 l0 x6_1).f3), x144004_3⟩ : S50) [.string (((z8 l0 x6_1).f0).extract 0 ((ji8) : Int).toNat), .slice Ao24 t137.length co24, .slice Ao23 t140.length co23, .int .i64 ((z8 l0 x6_1).f3), .slice Ao62 x144004_3.length co62] (fun k_ => k_ ≠ gb136 ∧ k_ ≠ gb143) (fun k_ => ((fun k_ => k_ ≠ gb136 ∧ k_ ≠ gb143)) k_ ∧ some k_ ≠ (u5 : Value).ownBlock) rfl rfl ?aP (fun _ hk => hk) ?aF ?aO ?aB ?aS ?aL ?_; (case aP => exact z6n _ _ _ (⟨(((z8 l0 x6_1).f0).extract 0 ((ji8) : Int).toNat), t137, t140, ((z8 l0 x6_1).f3), x144004_3⟩ : S50) (Kd.zw (Kd.xh (Kd.xh (Kd.z0t ((Kd.S_R HO_144001.out)) (Kd.z0I HO_5.out) (by decide)) BK136.out (by decide)) BK143.out (by decide)) (fun k_ hk => ⟨⟨hk.1.2, hk.2⟩, hk.1.1.2⟩)) (Kd.zw (Kd.xh (Kd.xh (Kd.z0t ((Kd.S_R HO_144002.out)) (Kd.z0I HO_5.out) (by decide)) BK136.out (by decide)) BK143.out (by decide)) (fun k_ hk => ⟨⟨hk.1.2, hk.2⟩, hk.1.1.2⟩)) (Kd.zw (Kd.xh (Kd.xh (Kd.z0t ((Kd.S_R HO_144004.out)) (Kd.z0I HO_5.out) (by decide)) BK136.out (by decide)) BK143.out (by decide)) (fun k_ hk => ⟨⟨hk.1.2, hk.2⟩, hk.1.1.2⟩))); (case aB => exact (bl HB)); (case aF => exact (fun k_ hk => ⟨Kd.z4N (bj BK136) k_ hk, Kd.z4N (bj BK143) k_ hk⟩)); (case aO => exact (by exact rA (Kd.zw HO_5.out (fun _ hk => ⟨hk.2.2.2.1, hk.2.2.2.2⟩)))); (case aS => exact (zg (bl HB))); (case aL => have := LMc57.out; omega); intro v162 wq1 ho hb hg hat; rw [← Ny161.out] at ho; replace BK136 := aS (yX (bj BK136) hg (Kd.z4C HO_5.out (fun _ hk => hk.2.2.2.1))); replace BK143 := aS (yX (bj BK143) hg (Kd.z4C HO_5.out (fun _ hk => hk.2.2.2.2))); replace HB := aS (hb); have HO163 := aS (ho); clear HO_5 HO_144001 HO_144002 HO_144004; clear ho hb hg hat)))
       ·go_roundg k3
        case measure => have := HK1.out; have := HJ2.out; have := HK3.out; omega
        case rel => exact ⟨(wrap64 (x1_3 - 1)), (wrap64 (x9_3 + 1)), (y155), (.slice Aoq3 y155.length coq3), rs, rs, H', ⟨by have := HK1.out; have := HJ2.out; have := HK3.out; omega⟩, ⟨by exact rA (Kd.zw (Kd.z8d (p := ⟨gb143, 4, none⟩) (Kd.zw HO_5.out (fun k_ hk => (⟨hk, hk.1.2.2.2.2.2.1⟩ : _ ∧ k_ ≠ gb143))) (fun _ hk => hk.2) (.slice Aoq3 y155.length coq3)) (fun _ hk => ⟨hk.1.1.1, ⟨hk.1.1.2.1, ⟨hk.1.2, ⟨hk.1.1.2.2.2.2.1, hk.1.1.2.2.2.2.2.1⟩⟩⟩⟩))⟩, ⟨by exact sA (Kd.xM (Kd.z8g (p := ⟨gb143, 4, none⟩) (Kd.z1s HO_144001.out BK143.out (by decide)) (fun _ hk => hk.2) (.slice Aoq3 y155.length coq3)) (fun _ hk => hk.1))⟩, ⟨by exact sA (Kd.xM (Kd.z8g (p := ⟨gb143, 4, none⟩) (Kd.z1s HO_144002.out BK143.out (by decide)) (fun _ hk => hk.2) (.slice Aoq3 y155.length coq3)) (fun _ hk => hk.1))⟩, ⟨by exact sA (Kd.xM (Kd.z8g (p := ⟨gb143, 4, none⟩) (Kd.z1s HO157.out BK143.out (by decide)) (fun _ hk => hk.2) (.slice Aoq3 y155.length coq3)) (fun _ hk => trivial))⟩, ⟨bp BK136⟩, ⟨bp BK143⟩, ⟨bl HB⟩⟩
       ·go_roundg k3
        case measure => have := HK1.out; have := HJ2.out; have := HK3.out; omega
        case rel => exact ⟨(x1_3), (y158), (wrap64 (x6_1 + 1)), rs, rs, H', ⟨by have := HK1.out; have := HJ2.out; have := HK3.out; omega⟩, ⟨by exact rA (Kd.zw HO160.out (fun _ hk => trivial))⟩, ⟨bl HB⟩⟩
       ·go_roundg k3
        case measure => have := HK1.out; have := HJ2.out; have := HK3.out; omega
        case rel => exact ⟨(x1_3), (y161), (wrap64 (x6_1 + 1)), rs, rs, H', ⟨by have := HK1.out; have := HJ2.out; have := HK3.out; omega⟩, ⟨by exact rA (Kd.zw HO163.out (fun _ hk => trivial))⟩, ⟨bl HB⟩⟩
end
end
section
section
attribute [local go_sem] yd zV
attribute [local go_sem] xf xg xD xE yI yJ xl xm
def yz.f (k : Nat) (l0 : List (S50)) : Option ((List (S50))) := (zm.f k l0 400).bind fun t164 => (some t164)
theorem yz.calls (k : Nat) (A0 : Option Addr) (c0 : Nat) (l0 : List (S50)) (r : List (S50)) (w : World) (hr0 : Kd.C k50 w A0 l0.length l0) (hc0 : l0.length ≤ c0) (h : yz.f k l0 = some r) :
 Calls Tryz.prog 11 #[.slice A0 l0.length c0] w fun e w' => ∃ v0_ : Value, e = .returned (v0_) ∧ Kd.R k50 50 w' w.heap.size (fun _ => True) v0_ r ∧ Below w.heap.size w w' := by
 have HR0 := aS hr0
 have HC0 := aS hc0
 clear hr0 hc0
 have HB := hR w
 have H := h
 unfold yz.f at H
 clear h
 replace H := bA H
 obtain ⟨t164, A2, H⟩ := H
 obtain rfl := sI H
 go_enter Tryz.func11, Tryz.ntmps11
 go_wp2_with (first | ((with_reducible refine zi (f := 30) rfl ?_); refine gl 4 Tryz.func30 #[.slice A0 l0.length c0, .int .i64 400] ?_; (with_reducible refine (zm.calls k _ _ l0 400 t164 _ ?side1 ?side2 A2.out).mono ?_); (case side1 => exact cA HR0.out); (case side2 => exact HC0.out); rintro e w3 ⟨v165, rfl, ho0, hb⟩; refine ⟨_, rfl, ?_⟩; have HO166 := aS (Kd.zL ho0 (zg (bl HB))); replace HB := hB_ HB hb; clear hb ho0))
 go_ret
 exact ⟨_, re, by exact rA HO166.out, bl HB⟩
end
end
end Go.Proofs.QP

