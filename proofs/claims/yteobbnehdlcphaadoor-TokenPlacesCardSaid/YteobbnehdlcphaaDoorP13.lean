-- written by this session's own driver over the kit's printing program
import Derived.Test.YteobbnehdlcphaaDoorP0
import Derived.Test.YteobbnehdlcphaaDoorP2
import Derived.Test.YteobbnehdlcphaaDoorP11
import Derived.Test.YteobbnehdlcphaaDoorP12
import Derived.Test.YteobbnehdlcphaaDoorG
namespace Go.Proofs.YteobbnehdlcphaaDoor.P
open Go.RowKit Go.Proofs.YteobbnehdlcphaaDoorW.PrintWords Go.Proofs.YteobbnehdlcphaaDoorW.PrintLast Go.Proofs.YteobbnehdlcphaaDoorW.PrintMore
open Go.Proofs.FX
attribute [local go_sem] cell_twice le_add_cast
attribute [local go_sem] max2_int min2_int max_two min_two max_three min_three max_four min_four   -- for this text's walks alone
set_option linter.unusedVariables false
set_option linter.unusedSimpArgs false

/-! ### fluxionlaw04_TokenPlaces: function 4 -/
def fluxionlaw04_TokenPlaces.j0 : Nat → Int → ByteArray → Int → Int → Int → Bool → Option (Bool)
  | 0, _, _, _, _, _, _ => none
  | k + 1, x1, x5, x6, x7, x8, x43 => if x43 = true then (if x6 = 0 then (if x7 = 0 then (if x8 = 2 then ((fluxionlaw04_alive.f k).bind fun t259 => (some t259)) else (some false)) else (some false)) else (some false)) else ((fluxionref04_Line.f k x5 x1).bind fun bt260 => (if x6 = bt260.1 then (if x7 = bt260.2 then (if x8 = 0 then ((fluxionlaw04_alive.f k).bind fun t262 => (some t262)) else (some false)) else (some false)) else (some false)))
def fluxionlaw04_TokenPlaces.f (k : Nat) (a0 : ByteArray) (a1 : Int) : Option (Bool) := (fluxionlaw04_short.f a0).bind fun t254 => ((token_Line.f k t254 a1).bind fun bt255 => (if (t254.size : Int) > 20000 then (if bt255.1 = 0 then (if bt255.2.1 = 0 then (if bt255.2.2 = 3 then ((fluxionlaw04_alive.f k).bind fun t258 => (some t258)) else (some false)) else (some false)) else (some false)) else (if a1 < 0 then (fluxionlaw04_TokenPlaces.j0 k a1 t254 bt255.1 bt255.2.1 bt255.2.2 true) else (fluxionlaw04_TokenPlaces.j0 k a1 t254 bt255.1 bt255.2.1 bt255.2.2 (decide (a1 > (t254.size : Int)))))))
theorem fluxionlaw04_TokenPlaces.mono_l : ∀ k, (∀ y0 y1 y2 y3 y4 y5, LeO (fluxionlaw04_TokenPlaces.j0 k y0 y1 y2 y3 y4 y5) (fluxionlaw04_TokenPlaces.j0 (k + 1) y0 y1 y2 y3 y4 y5))
  | 0 => fun _ _ _ _ _ _ r h => by simp [fluxionlaw04_TokenPlaces.j0] at h
  | k + 1 => by
    have ih0 := fluxionlaw04_TokenPlaces.mono_l k
    · intro y0 y1 y2 y3 y4 y5
      unfold fluxionlaw04_TokenPlaces.j0
      repeat' first
      | (with_reducible exact ih0 _ _ _ _ _ _)
      | (with_reducible exact fluxionlaw04_alive.mono _)
      | (with_reducible exact fluxionref04_Line.mono _ _ _)
      | (with_reducible exact token_Line.mono _ _ _)
      | (with_reducible exact LeO.refl _)
      | (with_reducible exact LeO.none _)
      | (with_reducible refine LeO.ite ?_ ?_)
      | (with_reducible refine LeO.bind ?_ (fun _ => ?_))
      | exact ih0 _ _ _ _ _ _
      | exact fluxionlaw04_alive.mono _
      | exact fluxionref04_Line.mono _ _ _
      | exact token_Line.mono _ _ _
      | exact LeO.none _
      | refine LeO.ite ?_ ?_
      | refine LeO.bind ?_ (fun _ => ?_)
theorem fluxionlaw04_TokenPlaces.mono : ∀ a0 a1 k, LeO (fluxionlaw04_TokenPlaces.f k a0 a1) (fluxionlaw04_TokenPlaces.f (k + 1) a0 a1) := by
  intro a0 a1 k
  have ih0 := fluxionlaw04_TokenPlaces.mono_l k
  unfold fluxionlaw04_TokenPlaces.f
  repeat' first
      | (with_reducible exact ih0 _ _ _ _ _ _)
      | (with_reducible exact fluxionlaw04_alive.mono _)
      | (with_reducible exact fluxionref04_Line.mono _ _ _)
      | (with_reducible exact token_Line.mono _ _ _)
      | (with_reducible exact LeO.refl _)
      | (with_reducible exact LeO.none _)
      | (with_reducible refine LeO.ite ?_ ?_)
      | (with_reducible refine LeO.bind ?_ (fun _ => ?_))
      | exact ih0 _ _ _ _ _ _
      | exact fluxionlaw04_alive.mono _
      | exact fluxionref04_Line.mono _ _ _
      | exact token_Line.mono _ _ _
      | exact LeO.none _
      | refine LeO.ite ?_ ?_
      | refine LeO.bind ?_ (fun _ => ?_)
set_option maxHeartbeats 8000000 in
set_option maxRecDepth 100000 in
theorem fluxionlaw04_TokenPlaces.calls (k : Nat) (a0 : ByteArray) (a1 : Int) (r : Bool) (w : World) (hG : GW w) (h : fluxionlaw04_TokenPlaces.f k a0 a1 = some r) :
    Calls Tryd.prog 4 #[.string a0, .int .i64 a1] w fun e w' => e = .returned (.bool r) ∧ Below w.heap.size w w' := by
  have HG := Aside0.mk hG
  clear hG
  have HB := Aside0.mk (Below.refl w.heap.size w)
  have H : ((fluxionlaw04_short.f a0).bind fun t254 => ((token_Line.f k t254 a1).bind fun bt255 => (if (t254.size : Int) > 20000 then (if bt255.1 = 0 then (if bt255.2.1 = 0 then (if bt255.2.2 = 3 then ((fluxionlaw04_alive.f k).bind fun t258 => (some t258)) else (some false)) else (some false)) else (some false)) else (if a1 < 0 then (fluxionlaw04_TokenPlaces.j0 k a1 t254 bt255.1 bt255.2.1 bt255.2.2 true) else (fluxionlaw04_TokenPlaces.j0 k a1 t254 bt255.1 bt255.2.1 bt255.2.2 (decide (a1 > (t254.size : Int)))))))) = some r := h
  clear h
  replace H := Option.bind_eq_some_iff.mp H
  obtain ⟨t254, A30, H⟩ := H
  replace H : ((token_Line.f k t254 a1).bind fun bt255 => (if (t254.size : Int) > 20000 then (if bt255.1 = 0 then (if bt255.2.1 = 0 then (if bt255.2.2 = 3 then ((fluxionlaw04_alive.f k).bind fun t258 => (some t258)) else (some false)) else (some false)) else (some false)) else (if a1 < 0 then (fluxionlaw04_TokenPlaces.j0 k a1 t254 bt255.1 bt255.2.1 bt255.2.2 true) else (fluxionlaw04_TokenPlaces.j0 k a1 t254 bt255.1 bt255.2.1 bt255.2.2 (decide (a1 > (t254.size : Int))))))) = some r := H
  have A3 := Aside0.mk A30
  clear A30
  replace H := Option.bind_eq_some_iff.mp H
  obtain ⟨⟨t255, t256, t257⟩, A40, H⟩ := H
  replace H : (if (t254.size : Int) > 20000 then (if t255 = 0 then (if t256 = 0 then (if t257 = 3 then ((fluxionlaw04_alive.f k).bind fun t258 => (some t258)) else (some false)) else (some false)) else (some false)) else (if a1 < 0 then (fluxionlaw04_TokenPlaces.j0 k a1 t254 t255 t256 t257 true) else (fluxionlaw04_TokenPlaces.j0 k a1 t254 t255 t256 t257 (decide (a1 > (t254.size : Int)))))) = some r := H
  have A4 := Aside0.mk A40
  clear A40
  by_cases c5 : (t254.size : Int) > 20000
  · rw [if_pos c5] at H
    have c5b0 : decide (20000 < (t254.size : Int)) = true := decide_eq_true c5
    have c5b1 : decide (20000 < t254.size) = true := decide_eq_true (by omega)
    clear c5
    by_cases c6 : t255 = 0
    · rw [if_pos c6] at H
      have c6b0 : (t255 == 0) = true := beq_iff_eq.mpr c6
      have c6b1 : (t255 != 0) = false := bne_eq_false_iff_eq.mpr c6
      clear c6
      by_cases c7 : t256 = 0
      · rw [if_pos c7] at H
        have c7b0 : (t256 == 0) = true := beq_iff_eq.mpr c7
        have c7b1 : (t256 != 0) = false := bne_eq_false_iff_eq.mpr c7
        clear c7
        by_cases c8 : t257 = 3
        · rw [if_pos c8] at H
          have c8b0 : (t257 == 3) = true := beq_iff_eq.mpr c8
          have c8b1 : (t257 != 3) = false := bne_eq_false_iff_eq.mpr c8
          clear c8
          replace H := Option.bind_eq_some_iff.mp H
          obtain ⟨t258, A90, H⟩ := H
          replace H : (some t258) = some r := H
          have A9 := Aside0.mk A90
          clear A90
          obtain rfl := Option.some.inj H
          go_enter Tryd.func4, Tryd.ntmps4
          go_wp2_with (first | ((with_reducible refine gate_callee (f := 12) rfl ?_); refine goesL_ (some 12) rfl rfl Tryd.func12 (by kernel_rfl) rfl #[.string a0] rfl (by (try simp only [List.map_toArray, List.map_cons, List.map_nil]); first | done | rfl | (simp only [List.length_drop, List.length_take]; rfl)) ?_; (with_reducible refine (fluxionlaw04_short.calls a0 t254 _ A3.out).mono ?_); rintro e w10 ⟨rfl, hb⟩; refine ⟨_, rfl, ?_⟩; have n0_ := Aside0.mk (below_step (by repeat (first | (with_reducible first | exact HB.out | apply below_alloc | apply pw_below_drewN | apply below_drew1) | exact HB.out)) hb); clear HB; have HB := n0_; clear n0_; (try clear hb); (try clear hb2); (try clear hk); (try clear hi)) | ((with_reducible refine gate_callee (f := 19) rfl ?_); refine goesL_ (some 16) rfl rfl Tryd.func19 (by kernel_rfl) rfl #[.string t254, .int .i64 a1] rfl (by (try simp only [List.map_toArray, List.map_cons, List.map_nil]); first | done | rfl | (simp only [List.length_drop, List.length_take]; rfl)) ?_; (with_reducible refine (token_Line.calls k t254 a1 t255 t256 t257 _ A4.out).mono ?_); rintro e w' ⟨rfl, ⟨nd, rfl⟩⟩; refine ⟨_, rfl, ?_⟩) | (go_at_call 17; (with_reducible refine (fluxionlaw04_alive.calls k  t258 _ ?side1 A9.out).mono ?_); (case side1 => exact GW.below HG.out (by repeat (first | (with_reducible first | exact HB.out | apply below_alloc | apply pw_below_drewN | apply below_drew1) | exact HB.out))); rintro e w11 ⟨rfl, hb⟩; have n0_ := Aside0.mk (below_step (by repeat (first | (with_reducible first | exact HB.out | apply below_alloc | apply pw_below_drewN | apply below_drew1) | exact HB.out)) hb); clear HB; have HB := n0_; clear n0_; (try clear hb); (try clear hb2); (try clear hk); (try clear hi)))
          go_ret
          exact ⟨by first | rfl | (simp [errW_none, errW_some] <;> rfl) | (simp [*, errW_none, errW_some] <;> rfl), by repeat (first | (with_reducible first | exact HB.out | apply below_alloc | apply pw_below_drewN | apply below_drew1) | exact HB.out)⟩
        · rw [if_neg c8] at H
          have c8b0 : (t257 == 3) = false := beq_eq_false_iff_ne.mpr c8
          have c8b1 : (t257 != 3) = true := bne_iff_ne.mpr c8
          obtain rfl := Option.some.inj H
          go_enter Tryd.func4, Tryd.ntmps4
          go_wp2_with (first | ((with_reducible refine gate_callee (f := 12) rfl ?_); refine goesL_ (some 12) rfl rfl Tryd.func12 (by kernel_rfl) rfl #[.string a0] rfl (by (try simp only [List.map_toArray, List.map_cons, List.map_nil]); first | done | rfl | (simp only [List.length_drop, List.length_take]; rfl)) ?_; (with_reducible refine (fluxionlaw04_short.calls a0 t254 _ A3.out).mono ?_); rintro e w12 ⟨rfl, hb⟩; refine ⟨_, rfl, ?_⟩; have n0_ := Aside0.mk (below_step (by repeat (first | (with_reducible first | exact HB.out | apply below_alloc | apply pw_below_drewN | apply below_drew1) | exact HB.out)) hb); clear HB; have HB := n0_; clear n0_; (try clear hb); (try clear hb2); (try clear hk); (try clear hi)) | ((with_reducible refine gate_callee (f := 19) rfl ?_); refine goesL_ (some 16) rfl rfl Tryd.func19 (by kernel_rfl) rfl #[.string t254, .int .i64 a1] rfl (by (try simp only [List.map_toArray, List.map_cons, List.map_nil]); first | done | rfl | (simp only [List.length_drop, List.length_take]; rfl)) ?_; (with_reducible refine (token_Line.calls k t254 a1 t255 t256 t257 _ A4.out).mono ?_); rintro e w' ⟨rfl, ⟨nd, rfl⟩⟩; refine ⟨_, rfl, ?_⟩))
          go_ret
          exact ⟨by first | rfl | (simp [errW_none, errW_some] <;> rfl) | (simp [*, errW_none, errW_some] <;> rfl), by repeat (first | (with_reducible first | exact HB.out | apply below_alloc | apply pw_below_drewN | apply below_drew1) | exact HB.out)⟩
      · rw [if_neg c7] at H
        have c7b0 : (t256 == 0) = false := beq_eq_false_iff_ne.mpr c7
        have c7b1 : (t256 != 0) = true := bne_iff_ne.mpr c7
        obtain rfl := Option.some.inj H
        go_enter Tryd.func4, Tryd.ntmps4
        go_wp2_with (first | ((with_reducible refine gate_callee (f := 12) rfl ?_); refine goesL_ (some 12) rfl rfl Tryd.func12 (by kernel_rfl) rfl #[.string a0] rfl (by (try simp only [List.map_toArray, List.map_cons, List.map_nil]); first | done | rfl | (simp only [List.length_drop, List.length_take]; rfl)) ?_; (with_reducible refine (fluxionlaw04_short.calls a0 t254 _ A3.out).mono ?_); rintro e w13 ⟨rfl, hb⟩; refine ⟨_, rfl, ?_⟩; have n0_ := Aside0.mk (below_step (by repeat (first | (with_reducible first | exact HB.out | apply below_alloc | apply pw_below_drewN | apply below_drew1) | exact HB.out)) hb); clear HB; have HB := n0_; clear n0_; (try clear hb); (try clear hb2); (try clear hk); (try clear hi)) | ((with_reducible refine gate_callee (f := 19) rfl ?_); refine goesL_ (some 16) rfl rfl Tryd.func19 (by kernel_rfl) rfl #[.string t254, .int .i64 a1] rfl (by (try simp only [List.map_toArray, List.map_cons, List.map_nil]); first | done | rfl | (simp only [List.length_drop, List.length_take]; rfl)) ?_; (with_reducible refine (token_Line.calls k t254 a1 t255 t256 t257 _ A4.out).mono ?_); rintro e w' ⟨rfl, ⟨nd, rfl⟩⟩; refine ⟨_, rfl, ?_⟩))
        go_ret
        exact ⟨by first | rfl | (simp [errW_none, errW_some] <;> rfl) | (simp [*, errW_none, errW_some] <;> rfl), by repeat (first | (with_reducible first | exact HB.out | apply below_alloc | apply pw_below_drewN | apply below_drew1) | exact HB.out)⟩
    · rw [if_neg c6] at H
      have c6b0 : (t255 == 0) = false := beq_eq_false_iff_ne.mpr c6
      have c6b1 : (t255 != 0) = true := bne_iff_ne.mpr c6
      obtain rfl := Option.some.inj H
      go_enter Tryd.func4, Tryd.ntmps4
      go_wp2_with (first | ((with_reducible refine gate_callee (f := 12) rfl ?_); refine goesL_ (some 12) rfl rfl Tryd.func12 (by kernel_rfl) rfl #[.string a0] rfl (by (try simp only [List.map_toArray, List.map_cons, List.map_nil]); first | done | rfl | (simp only [List.length_drop, List.length_take]; rfl)) ?_; (with_reducible refine (fluxionlaw04_short.calls a0 t254 _ A3.out).mono ?_); rintro e w14 ⟨rfl, hb⟩; refine ⟨_, rfl, ?_⟩; have n0_ := Aside0.mk (below_step (by repeat (first | (with_reducible first | exact HB.out | apply below_alloc | apply pw_below_drewN | apply below_drew1) | exact HB.out)) hb); clear HB; have HB := n0_; clear n0_; (try clear hb); (try clear hb2); (try clear hk); (try clear hi)) | ((with_reducible refine gate_callee (f := 19) rfl ?_); refine goesL_ (some 16) rfl rfl Tryd.func19 (by kernel_rfl) rfl #[.string t254, .int .i64 a1] rfl (by (try simp only [List.map_toArray, List.map_cons, List.map_nil]); first | done | rfl | (simp only [List.length_drop, List.length_take]; rfl)) ?_; (with_reducible refine (token_Line.calls k t254 a1 t255 t256 t257 _ A4.out).mono ?_); rintro e w' ⟨rfl, ⟨nd, rfl⟩⟩; refine ⟨_, rfl, ?_⟩))
      go_ret
      exact ⟨by first | rfl | (simp [errW_none, errW_some] <;> rfl) | (simp [*, errW_none, errW_some] <;> rfl), by repeat (first | (with_reducible first | exact HB.out | apply below_alloc | apply pw_below_drewN | apply below_drew1) | exact HB.out)⟩
  · rw [if_neg c5] at H
    have c5b0 : decide (20000 < (t254.size : Int)) = false := decide_eq_false c5
    have c5b1 : decide (20000 < t254.size) = false := decide_eq_false (by omega)
    clear c5
    have HC15 := Aside0.mk H
    clear H
    go_enter Tryd.func4, Tryd.ntmps4
    go_upto_region 5 with (first | ((with_reducible refine gate_callee (f := 12) rfl ?_); refine goesL_ (some 12) rfl rfl Tryd.func12 (by kernel_rfl) rfl #[.string a0] rfl (by (try simp only [List.map_toArray, List.map_cons, List.map_nil]); first | done | rfl | (simp only [List.length_drop, List.length_take]; rfl)) ?_; (with_reducible refine (fluxionlaw04_short.calls a0 t254 _ A3.out).mono ?_); rintro e w16 ⟨rfl, hb⟩; refine ⟨_, rfl, ?_⟩; have n0_ := Aside0.mk (below_step (by repeat (first | (with_reducible first | exact HB.out | apply below_alloc | apply pw_below_drewN | apply below_drew1) | exact HB.out)) hb); clear HB; have HB := n0_; clear n0_; (try clear hb); (try clear hb2); (try clear hk); (try clear hi)) | ((with_reducible refine gate_callee (f := 19) rfl ?_); refine goesL_ (some 16) rfl rfl Tryd.func19 (by kernel_rfl) rfl #[.string t254, .int .i64 a1] rfl (by (try simp only [List.map_toArray, List.map_cons, List.map_nil]); first | done | rfl | (simp only [List.length_drop, List.length_take]; rfl)) ?_; (with_reducible refine (token_Line.calls k t254 a1 t255 t256 t257 _ A4.out).mono ?_); rintro e w' ⟨rfl, ⟨nd, rfl⟩⟩; refine ⟨_, rfl, ?_⟩))
    (try simp only [Act.put, List.setIfInBounds_toArray, List.set_cons_zero, List.set_cons_succ])
    go_cut [43] (fun v43 wc => ∃ (kq : Nat) (x43_14 : Bool), v43 = .bool x43_14 ∧ Aside0 (fluxionlaw04_TokenPlaces.j0 kq a1 t254 t255 t256 t257 x43_14 = some r) ∧ Aside0 (kq ≤ k) ∧ Aside0 (Below w.heap.size w wc))
    case first =>
      have H := HC15.out
      clear HC15
      by_cases c17 : a1 < 0
      · rw [if_pos c17] at H
        have c17b0 : decide (a1 < 0) = true := decide_eq_true c17
        clear c17
        (first | rw [c17b0] | (simp only [i64_w, i32_w]; rw [c17b0]) | skip)
        have H' := Aside0.mk H
        clear H
        go_wp2
        go_meet
        case rel => exact ⟨_, (true), (by first | rfl | (simp; done) | (simp [*]; done)), H', ⟨by first | omega | exact Nat.le_refl _⟩, ⟨by repeat (first | (with_reducible first | exact HB.out | apply below_alloc | apply pw_below_drewN | apply below_drew1) | exact HB.out)⟩⟩
      · rw [if_neg c17] at H
        have c17b0 : decide (a1 < 0) = false := decide_eq_false c17
        clear c17
        (first | rw [c17b0] | (simp only [i64_w, i32_w]; rw [c17b0]) | skip)
        have H' := Aside0.mk H
        clear H
        go_wp2
        go_meet
        case rel => exact ⟨_, (decide (a1 > (t254.size : Int))), (by first | rfl | (simp; done) | (simp [*]; done)), H', ⟨by first | omega | exact Nat.le_refl _⟩, ⟨by repeat (first | (with_reducible first | exact HB.out | apply below_alloc | apply pw_below_drewN | apply below_drew1) | exact HB.out)⟩⟩
    case rest =>
      clear HC15
      try clear c1
      try clear p2
      try clear c4
      try clear c5
      try clear c5b0
      try clear c5b1
      try clear c6
      try clear c6b0
      try clear c6b1
      try clear c7
      try clear c7b0
      try clear c7b1
      try clear c8
      try clear c8b0
      try clear c8b1
      try clear c12
      try clear c17
      try clear c17b0
      obtain ⟨kq, x43_14, rfl, HA, HJ14, HB⟩ := hcut
      cases kq with
      | zero => exact absurd HA.out (by simp [fluxionlaw04_TokenPlaces.j0])
      | succ kj14 =>
        have H := HA.out
        clear HA
        simp only [fluxionlaw04_TokenPlaces.j0] at H
        by_cases c18 : x43_14 = true
        · subst c18
          have H1 : (if t255 = 0 then (if t256 = 0 then (if t257 = 2 then ((fluxionlaw04_alive.f kj14).bind fun t259 => (some t259)) else (some false)) else (some false)) else (some false)) = some r := by rw [if_pos rfl] at H; exact H
          clear H
          have H := H1
          clear H1
          by_cases c19 : t255 = 0
          · rw [if_pos c19] at H
            have c19b0 : (t255 == 0) = true := beq_iff_eq.mpr c19
            have c19b1 : (t255 != 0) = false := bne_eq_false_iff_eq.mpr c19
            clear c19
            by_cases c20 : t256 = 0
            · rw [if_pos c20] at H
              have c20b0 : (t256 == 0) = true := beq_iff_eq.mpr c20
              have c20b1 : (t256 != 0) = false := bne_eq_false_iff_eq.mpr c20
              clear c20
              by_cases c21 : t257 = 2
              · rw [if_pos c21] at H
                have c21b0 : (t257 == 2) = true := beq_iff_eq.mpr c21
                have c21b1 : (t257 != 2) = false := bne_eq_false_iff_eq.mpr c21
                clear c21
                replace H := Option.bind_eq_some_iff.mp H
                obtain ⟨t259, A220, H⟩ := H
                replace H : (some t259) = some r := H
                have A22 := Aside0.mk A220
                clear A220
                obtain rfl := Option.some.inj H
                go_wp2_with (first | (go_at_call 17; (with_reducible refine (fluxionlaw04_alive.calls kj14  t259 _ ?side1 A22.out).mono ?_); (case side1 => exact GW.below HG.out (by repeat (first | (with_reducible first | exact HB.out | apply below_alloc | apply pw_below_drewN | apply below_drew1) | exact HB.out))); rintro e w23 ⟨rfl, hb⟩; have n0_ := Aside0.mk (below_step (by repeat (first | (with_reducible first | exact HB.out | apply below_alloc | apply pw_below_drewN | apply below_drew1) | exact HB.out)) hb); clear HB; have HB := n0_; clear n0_; (try clear hb); (try clear hb2); (try clear hk); (try clear hi)))
                go_ret
                exact ⟨by first | rfl | (simp [errW_none, errW_some] <;> rfl) | (simp [*, errW_none, errW_some] <;> rfl), by repeat (first | (with_reducible first | exact HB.out | apply below_alloc | apply pw_below_drewN | apply below_drew1) | exact HB.out)⟩
              · rw [if_neg c21] at H
                have c21b0 : (t257 == 2) = false := beq_eq_false_iff_ne.mpr c21
                have c21b1 : (t257 != 2) = true := bne_iff_ne.mpr c21
                obtain rfl := Option.some.inj H
                go_wp2
                go_ret
                exact ⟨by first | rfl | (simp [errW_none, errW_some] <;> rfl) | (simp [*, errW_none, errW_some] <;> rfl), by repeat (first | (with_reducible first | exact HB.out | apply below_alloc | apply pw_below_drewN | apply below_drew1) | exact HB.out)⟩
            · rw [if_neg c20] at H
              have c20b0 : (t256 == 0) = false := beq_eq_false_iff_ne.mpr c20
              have c20b1 : (t256 != 0) = true := bne_iff_ne.mpr c20
              obtain rfl := Option.some.inj H
              go_wp2
              go_ret
              exact ⟨by first | rfl | (simp [errW_none, errW_some] <;> rfl) | (simp [*, errW_none, errW_some] <;> rfl), by repeat (first | (with_reducible first | exact HB.out | apply below_alloc | apply pw_below_drewN | apply below_drew1) | exact HB.out)⟩
          · rw [if_neg c19] at H
            have c19b0 : (t255 == 0) = false := beq_eq_false_iff_ne.mpr c19
            have c19b1 : (t255 != 0) = true := bne_iff_ne.mpr c19
            obtain rfl := Option.some.inj H
            go_wp2
            go_ret
            exact ⟨by first | rfl | (simp [errW_none, errW_some] <;> rfl) | (simp [*, errW_none, errW_some] <;> rfl), by repeat (first | (with_reducible first | exact HB.out | apply below_alloc | apply pw_below_drewN | apply below_drew1) | exact HB.out)⟩
        · replace c18 := Bool.eq_false_iff.mpr c18
          subst c18
          have H1 : ((fluxionref04_Line.f kj14 t254 a1).bind fun bt260 => (if t255 = bt260.1 then (if t256 = bt260.2 then (if t257 = 0 then ((fluxionlaw04_alive.f kj14).bind fun t262 => (some t262)) else (some false)) else (some false)) else (some false))) = some r := by rw [if_neg (show ¬ (false = true) by decide)] at H; exact H
          clear H
          have H := H1
          clear H1
          replace H := Option.bind_eq_some_iff.mp H
          obtain ⟨⟨t260, t261⟩, A240, H⟩ := H
          replace H : (if t255 = t260 then (if t256 = t261 then (if t257 = 0 then ((fluxionlaw04_alive.f kj14).bind fun t262 => (some t262)) else (some false)) else (some false)) else (some false)) = some r := H
          have A24 := Aside0.mk A240
          clear A240
          by_cases c25 : t255 = t260
          · rw [if_pos c25] at H
            have c25b0 : (t255 == t260) = true := beq_iff_eq.mpr c25
            have c25b1 : (t255 != t260) = false := bne_eq_false_iff_eq.mpr c25
            clear c25
            by_cases c26 : t256 = t261
            · rw [if_pos c26] at H
              have c26b0 : (t256 == t261) = true := beq_iff_eq.mpr c26
              have c26b1 : (t256 != t261) = false := bne_eq_false_iff_eq.mpr c26
              clear c26
              by_cases c27 : t257 = 0
              · rw [if_pos c27] at H
                have c27b0 : (t257 == 0) = true := beq_iff_eq.mpr c27
                have c27b1 : (t257 != 0) = false := bne_eq_false_iff_eq.mpr c27
                clear c27
                replace H := Option.bind_eq_some_iff.mp H
                obtain ⟨t262, A280, H⟩ := H
                replace H : (some t262) = some r := H
                have A28 := Aside0.mk A280
                clear A280
                obtain rfl := Option.some.inj H
                go_wp2_with (first | ((with_reducible refine gate_callee (f := 20) rfl ?_); refine goesL_ (some 60) rfl rfl Tryd.func20 (by kernel_rfl) rfl #[.string t254, .int .i64 a1] rfl (by (try simp only [List.map_toArray, List.map_cons, List.map_nil]); first | done | rfl | (simp only [List.length_drop, List.length_take]; rfl)) ?_; (with_reducible refine (fluxionref04_Line.calls kj14 t254 a1 t260 t261 _ A24.out).mono ?_); rintro e w' ⟨rfl, ⟨nd, rfl⟩⟩; refine ⟨_, rfl, ?_⟩) | (go_at_call 17; (with_reducible refine (fluxionlaw04_alive.calls kj14  t262 _ ?side1 A28.out).mono ?_); (case side1 => exact GW.below HG.out (by repeat (first | (with_reducible first | exact HB.out | apply below_alloc | apply pw_below_drewN | apply below_drew1) | exact HB.out))); rintro e w29 ⟨rfl, hb⟩; have n0_ := Aside0.mk (below_step (by repeat (first | (with_reducible first | exact HB.out | apply below_alloc | apply pw_below_drewN | apply below_drew1) | exact HB.out)) hb); clear HB; have HB := n0_; clear n0_; (try clear hb); (try clear hb2); (try clear hk); (try clear hi)))
                go_ret
                exact ⟨by first | rfl | (simp [errW_none, errW_some] <;> rfl) | (simp [*, errW_none, errW_some] <;> rfl), by repeat (first | (with_reducible first | exact HB.out | apply below_alloc | apply pw_below_drewN | apply below_drew1) | exact HB.out)⟩
              · rw [if_neg c27] at H
                have c27b0 : (t257 == 0) = false := beq_eq_false_iff_ne.mpr c27
                have c27b1 : (t257 != 0) = true := bne_iff_ne.mpr c27
                obtain rfl := Option.some.inj H
                go_wp2_with (first | ((with_reducible refine gate_callee (f := 20) rfl ?_); refine goesL_ (some 60) rfl rfl Tryd.func20 (by kernel_rfl) rfl #[.string t254, .int .i64 a1] rfl (by (try simp only [List.map_toArray, List.map_cons, List.map_nil]); first | done | rfl | (simp only [List.length_drop, List.length_take]; rfl)) ?_; (with_reducible refine (fluxionref04_Line.calls kj14 t254 a1 t260 t261 _ A24.out).mono ?_); rintro e w' ⟨rfl, ⟨nd, rfl⟩⟩; refine ⟨_, rfl, ?_⟩))
                go_ret
                exact ⟨by first | rfl | (simp [errW_none, errW_some] <;> rfl) | (simp [*, errW_none, errW_some] <;> rfl), by repeat (first | (with_reducible first | exact HB.out | apply below_alloc | apply pw_below_drewN | apply below_drew1) | exact HB.out)⟩
            · rw [if_neg c26] at H
              have c26b0 : (t256 == t261) = false := beq_eq_false_iff_ne.mpr c26
              have c26b1 : (t256 != t261) = true := bne_iff_ne.mpr c26
              obtain rfl := Option.some.inj H
              go_wp2_with (first | ((with_reducible refine gate_callee (f := 20) rfl ?_); refine goesL_ (some 60) rfl rfl Tryd.func20 (by kernel_rfl) rfl #[.string t254, .int .i64 a1] rfl (by (try simp only [List.map_toArray, List.map_cons, List.map_nil]); first | done | rfl | (simp only [List.length_drop, List.length_take]; rfl)) ?_; (with_reducible refine (fluxionref04_Line.calls kj14 t254 a1 t260 t261 _ A24.out).mono ?_); rintro e w' ⟨rfl, ⟨nd, rfl⟩⟩; refine ⟨_, rfl, ?_⟩))
              go_ret
              exact ⟨by first | rfl | (simp [errW_none, errW_some] <;> rfl) | (simp [*, errW_none, errW_some] <;> rfl), by repeat (first | (with_reducible first | exact HB.out | apply below_alloc | apply pw_below_drewN | apply below_drew1) | exact HB.out)⟩
          · rw [if_neg c25] at H
            have c25b0 : (t255 == t260) = false := beq_eq_false_iff_ne.mpr c25
            have c25b1 : (t255 != t260) = true := bne_iff_ne.mpr c25
            obtain rfl := Option.some.inj H
            go_wp2_with (first | ((with_reducible refine gate_callee (f := 20) rfl ?_); refine goesL_ (some 60) rfl rfl Tryd.func20 (by kernel_rfl) rfl #[.string t254, .int .i64 a1] rfl (by (try simp only [List.map_toArray, List.map_cons, List.map_nil]); first | done | rfl | (simp only [List.length_drop, List.length_take]; rfl)) ?_; (with_reducible refine (fluxionref04_Line.calls kj14 t254 a1 t260 t261 _ A24.out).mono ?_); rintro e w' ⟨rfl, ⟨nd, rfl⟩⟩; refine ⟨_, rfl, ?_⟩))
            go_ret
            exact ⟨by first | rfl | (simp [errW_none, errW_some] <;> rfl) | (simp [*, errW_none, errW_some] <;> rfl), by repeat (first | (with_reducible first | exact HB.out | apply below_alloc | apply pw_below_drewN | apply below_drew1) | exact HB.out)⟩

end Go.Proofs.YteobbnehdlcphaaDoor.P
