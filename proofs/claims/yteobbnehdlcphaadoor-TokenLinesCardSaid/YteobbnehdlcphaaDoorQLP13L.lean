import Derived.Test.YteobbnehdlcphaaDoorQLP0
import Derived.Test.YteobbnehdlcphaaDoorQLP2
import Derived.Test.YteobbnehdlcphaaDoorQLP11
import Derived.Test.YteobbnehdlcphaaDoorQLP3
import Derived.Test.YteobbnehdlcphaaDoorQLP6
import Derived.Test.YteobbnehdlcphaaDoorQLP1
import Derived.Test.YteobbnehdlcphaaDoorQLG
namespace Go.Proofs.YteobbnehdlcphaaDoor.P
open Go.RowKit Go.Proofs.YteobbnehdlcphaaDoorW.PrintWords Go.Proofs.YteobbnehdlcphaaDoorW.PrintLast Go.Proofs.YteobbnehdlcphaaDoorW.PrintMore
open Go.Proofs.FX
attribute [local go_sem] cell_twice le_add_cast
attribute [local go_sem] max2_int min2_int max_two min_two max_three min_three max_four min_four
set_option linter.unusedVariables false
set_option linter.unusedSimpArgs false
mutual
def fluxionlaw04_TokenLines.j0 : Nat → ByteArray → Int → Int → Option (Bool)
  | 0, _, _, _ => none
  | k + 1, x7, x8, x9 => (token_Line.f k x7 x8).bind fun bt263 => ((token_Line.f k x7 x9).bind fun bt266 => ((token_Line.f k x7 (x7.size : Int)).bind fun bt269 => (if bt263.2.2 = 0 then (if bt266.2.2 = 0 then (if bt269.2.2 = 0 then (if bt263.1 < 1 then (fluxionlaw04_TokenLines.j1 k x7 x8 bt263.2.1 bt269.1 true) else (if bt263.2.1 < 1 then (fluxionlaw04_TokenLines.j1 k x7 x8 bt263.2.1 bt269.1 true) else (if bt269.2.1 < 1 then (fluxionlaw04_TokenLines.j1 k x7 x8 bt263.2.1 bt269.1 true) else (if bt263.1 > bt266.1 then (fluxionlaw04_TokenLines.j1 k x7 x8 bt263.2.1 bt269.1 true) else (if bt266.1 > bt269.1 then (fluxionlaw04_TokenLines.j1 k x7 x8 bt263.2.1 bt269.1 true) else (if bt263.1 = bt266.1 then (fluxionlaw04_TokenLines.j1 k x7 x8 bt263.2.1 bt269.1 ((wrap64 (bt266.2.1 - bt263.2.1)) != (wrap64 (x9 - x8)))) else (fluxionlaw04_TokenLines.j1 k x7 x8 bt263.2.1 bt269.1 false))))))) else (fluxionlaw04_TokenLines.j1 k x7 x8 bt263.2.1 bt269.1 true)) else (fluxionlaw04_TokenLines.j1 k x7 x8 bt263.2.1 bt269.1 true)) else (fluxionlaw04_TokenLines.j1 k x7 x8 bt263.2.1 bt269.1 true))))
def fluxionlaw04_TokenLines.j1 : Nat → ByteArray → Int → Int → Int → Bool → Option (Bool)
  | 0, _, _, _, _, _ => none
  | k + 1, x7, x8, x12, x17, x116 => if x116 = true then (some false) else (fluxionlaw04_TokenLines.l0 k x7 x8 x12 x17 0 0)
def fluxionlaw04_TokenLines.l0 : Nat → ByteArray → Int → Int → Int → Int → Int → Option (Bool)
  | 0, _, _, _, _, _, _ => none
  | k + 1, x7, x8, x12, x17, x20, x21 => if x21 < (x7.size : Int) then (if 0 ≤ x21 then (if (bt x7 x21) = 10 then (fluxionlaw04_TokenLines.l0 k x7 x8 x12 x17 (wrap64 (x20 + 1)) (wrap64 (x21 + 1))) else (fluxionlaw04_TokenLines.l0 k x7 x8 x12 x17 x20 (wrap64 (x21 + 1)))) else (none)) else (if x17 = (wrap64 (x20 + 1)) then (if x8 = 0 then ((fluxionlaw04_alive.f k).bind fun t272 => (some t272)) else (if 0 ≤ (wrap64 (x8 - 1)) then (if (wrap64 (x8 - 1)) < (x7.size : Int) then (if ((x12 == 1) == ((bt x7 (wrap64 (x8 - 1))) == 10)) = true then ((fluxionlaw04_alive.f k).bind fun t273 => (some t273)) else (some false)) else (none)) else (none))) else (some false))
end
def fluxionlaw04_TokenLines.f (k : Nat) (a0 : ByteArray) (a1 : Int) (a2 : Int) : Option (Bool) := if 0 ≤ (mn (a0.size : Int) 20000) then (if (mn (a0.size : Int) 20000) ≤ (a0.size : Int) then (if (IntKind.u64.wrap (wrap64 (((a0.extract 0 ((mn (a0.size : Int) 20000) : Int).toNat).size : Int) + 1))) = 0 then (none) else (if (wrap64 (Int.tmod (IntKind.u64.wrap (a1)) (IntKind.u64.wrap (wrap64 (((a0.extract 0 ((mn (a0.size : Int) 20000) : Int).toNat).size : Int) + 1))))) > (wrap64 (Int.tmod (IntKind.u64.wrap (a2)) (IntKind.u64.wrap (wrap64 (((a0.extract 0 ((mn (a0.size : Int) 20000) : Int).toNat).size : Int) + 1))))) then (fluxionlaw04_TokenLines.j0 k (a0.extract 0 ((mn (a0.size : Int) 20000) : Int).toNat) (wrap64 (Int.tmod (IntKind.u64.wrap (a2)) (IntKind.u64.wrap (wrap64 (((a0.extract 0 ((mn (a0.size : Int) 20000) : Int).toNat).size : Int) + 1))))) (wrap64 (Int.tmod (IntKind.u64.wrap (a1)) (IntKind.u64.wrap (wrap64 (((a0.extract 0 ((mn (a0.size : Int) 20000) : Int).toNat).size : Int) + 1)))))) else (fluxionlaw04_TokenLines.j0 k (a0.extract 0 ((mn (a0.size : Int) 20000) : Int).toNat) (wrap64 (Int.tmod (IntKind.u64.wrap (a1)) (IntKind.u64.wrap (wrap64 (((a0.extract 0 ((mn (a0.size : Int) 20000) : Int).toNat).size : Int) + 1))))) (wrap64 (Int.tmod (IntKind.u64.wrap (a2)) (IntKind.u64.wrap (wrap64 (((a0.extract 0 ((mn (a0.size : Int) 20000) : Int).toNat).size : Int) + 1)))))))) else (none)) else (none)
set_option maxHeartbeats 8000000 in
set_option maxRecDepth 100000 in
theorem fluxionlaw04_TokenLines.calls (k : Nat) (a0 : ByteArray) (a1 : Int) (a2 : Int) (r : Bool) (w : World) (hG : GW w) (h : fluxionlaw04_TokenLines.f k a0 a1 a2 = some r) :
    Calls Tryd.prog 5 #[.string a0, .int .i64 a1, .int .i64 a2] w fun e w' => e = .returned (.bool r) ∧ Below w.heap.size w w' := by
  have HG := Aside0.mk hG
  clear hG
  have HB := Aside0.mk (Below.refl w.heap.size w)
  have H : (if 0 ≤ (mn (a0.size : Int) 20000) then (if (mn (a0.size : Int) 20000) ≤ (a0.size : Int) then (if (IntKind.u64.wrap (wrap64 (((a0.extract 0 ((mn (a0.size : Int) 20000) : Int).toNat).size : Int) + 1))) = 0 then (none) else (if (wrap64 (Int.tmod (IntKind.u64.wrap (a1)) (IntKind.u64.wrap (wrap64 (((a0.extract 0 ((mn (a0.size : Int) 20000) : Int).toNat).size : Int) + 1))))) > (wrap64 (Int.tmod (IntKind.u64.wrap (a2)) (IntKind.u64.wrap (wrap64 (((a0.extract 0 ((mn (a0.size : Int) 20000) : Int).toNat).size : Int) + 1))))) then (fluxionlaw04_TokenLines.j0 k (a0.extract 0 ((mn (a0.size : Int) 20000) : Int).toNat) (wrap64 (Int.tmod (IntKind.u64.wrap (a2)) (IntKind.u64.wrap (wrap64 (((a0.extract 0 ((mn (a0.size : Int) 20000) : Int).toNat).size : Int) + 1))))) (wrap64 (Int.tmod (IntKind.u64.wrap (a1)) (IntKind.u64.wrap (wrap64 (((a0.extract 0 ((mn (a0.size : Int) 20000) : Int).toNat).size : Int) + 1)))))) else (fluxionlaw04_TokenLines.j0 k (a0.extract 0 ((mn (a0.size : Int) 20000) : Int).toNat) (wrap64 (Int.tmod (IntKind.u64.wrap (a1)) (IntKind.u64.wrap (wrap64 (((a0.extract 0 ((mn (a0.size : Int) 20000) : Int).toNat).size : Int) + 1))))) (wrap64 (Int.tmod (IntKind.u64.wrap (a2)) (IntKind.u64.wrap (wrap64 (((a0.extract 0 ((mn (a0.size : Int) 20000) : Int).toNat).size : Int) + 1)))))))) else (none)) else (none)) = some r := h
  clear h
  obtain ⟨ji4, hji4⟩ : ∃ j_ : Int, (mn (a0.size : Int) 20000) = j_ := ⟨_, rfl⟩
  replace H : (if 0 ≤ (ji4) then (if (ji4) ≤ (a0.size : Int) then (if (IntKind.u64.wrap (wrap64 (((a0.extract 0 ((ji4) : Int).toNat).size : Int) + 1))) = 0 then (none) else (if (wrap64 (Int.tmod (IntKind.u64.wrap (a1)) (IntKind.u64.wrap (wrap64 (((a0.extract 0 ((ji4) : Int).toNat).size : Int) + 1))))) > (wrap64 (Int.tmod (IntKind.u64.wrap (a2)) (IntKind.u64.wrap (wrap64 (((a0.extract 0 ((ji4) : Int).toNat).size : Int) + 1))))) then (fluxionlaw04_TokenLines.j0 k (a0.extract 0 ((ji4) : Int).toNat) (wrap64 (Int.tmod (IntKind.u64.wrap (a2)) (IntKind.u64.wrap (wrap64 (((a0.extract 0 ((ji4) : Int).toNat).size : Int) + 1))))) (wrap64 (Int.tmod (IntKind.u64.wrap (a1)) (IntKind.u64.wrap (wrap64 (((a0.extract 0 ((ji4) : Int).toNat).size : Int) + 1)))))) else (fluxionlaw04_TokenLines.j0 k (a0.extract 0 ((ji4) : Int).toNat) (wrap64 (Int.tmod (IntKind.u64.wrap (a1)) (IntKind.u64.wrap (wrap64 (((a0.extract 0 ((ji4) : Int).toNat).size : Int) + 1))))) (wrap64 (Int.tmod (IntKind.u64.wrap (a2)) (IntKind.u64.wrap (wrap64 (((a0.extract 0 ((ji4) : Int).toNat).size : Int) + 1)))))))) else (none)) else (none)) = some r := by first | (rw [hji4] at H; exact H) | (simp only [hji4] at H ⊢; exact H)
  (try (have hji4h : ji4 ≤ 20000 := by (rw [← hji4]; unfold mn; (repeat' split) <;> omega)))
  (try (have hji4g : ji4 ≤ 64 := by omega))
  (try (have hji4l : 0 ≤ ji4 := by (rw [← hji4]; unfold mn; (repeat' split) <;> omega)))
  (try (have hji4m : 0 ≤ ji4 := by omega))
  have hji4_ : (if 20000 < (a0.size : Int) then 20000 else (a0.size : Int)) = ji4 := hji4
  by_cases c5 : 0 ≤ (ji4)
  · rw [if_pos c5] at H
    have c5b0 := eq_true c5
    have c5b1 : decide (0 ≤ (ji4)) = true := decide_eq_true c5
    clear c5
    by_cases c6 : (ji4) ≤ (a0.size : Int)
    · rw [if_pos c6] at H
      have c6b0 := eq_true c6
      have c6b1 : decide ((ji4) ≤ (a0.size : Int)) = true := decide_eq_true c6
      clear c6
      by_cases c7 : (IntKind.u64.wrap (wrap64 (((a0.extract 0 ((ji4) : Int).toNat).size : Int) + 1))) = 0
      · rw [if_pos c7] at H
        exact absurd H (by simp)
      · rw [if_neg c7] at H
        have c7b0 : ((IntKind.u64.wrap (wrap64 (((a0.extract 0 ((ji4) : Int).toNat).size : Int) + 1))) == 0) = false := beq_eq_false_iff_ne.mpr c7
        have c7b1 : ((IntKind.u64.wrap (wrap64 (((a0.extract 0 ((ji4) : Int).toNat).size : Int) + 1))) != 0) = true := bne_iff_ne.mpr c7
        have HC8 := Aside0.mk H
        clear H
        go_enter Tryd.func5, Tryd.ntmps5
        go_upto_if 45 with (fail)
        repeat (go_quiet (fail); go_upto_if 45 with (fail))
        go_cut [8, 9] (fun v8 v9 wc => ∃ (kq : Nat) (x8_7 : Int) (x9_7 : Int), v8 = .int .i64 x8_7 ∧ v9 = .int .i64 x9_7 ∧ Aside0 (fluxionlaw04_TokenLines.j0 kq (a0.extract 0 ((ji4) : Int).toNat) x8_7 x9_7 = some r) ∧ Aside0 (kq ≤ k) ∧ Aside0 (Below w.heap.size w wc))
        case first =>
          have H := HC8.out
          clear HC8
          by_cases c9 : (wrap64 (Int.tmod (IntKind.u64.wrap (a1)) (IntKind.u64.wrap (wrap64 (((a0.extract 0 ((ji4) : Int).toNat).size : Int) + 1))))) > (wrap64 (Int.tmod (IntKind.u64.wrap (a2)) (IntKind.u64.wrap (wrap64 (((a0.extract 0 ((ji4) : Int).toNat).size : Int) + 1)))))
          · rw [if_pos c9] at H
            have c9b0 : decide ((wrap64 (Int.tmod (IntKind.u64.wrap (a2)) (IntKind.u64.wrap (wrap64 (((a0.extract 0 ((ji4) : Int).toNat).size : Int) + 1))))) < (wrap64 (Int.tmod (IntKind.u64.wrap (a1)) (IntKind.u64.wrap (wrap64 (((a0.extract 0 ((ji4) : Int).toNat).size : Int) + 1)))))) = true := decide_eq_true c9
            have hz_ : (a0.extract 0 ((ji4) : Int).toNat).size = ji4.toNat := (by rw [ByteArray.size_extract]; have := of_eq_true c6b0; omega)
            have e_ : IntKind.u64.wrap (wrap64 (((a0.extract 0 ((ji4) : Int).toNat).size : Int) + 1)) = max ji4 0 + 1 := (by rw [hz_, IntKind.wrap_u64]; unfold wrap64; omega)
            rw [e_] at c9b0
            clear c9
            (first | rw [c9b0] | (simp only [i64_w, i32_w]; rw [c9b0]) | skip)
            have H' := Aside0.mk H
            clear H
            go_wp2
            repeat (go_quiet (fail); try go_wp2)
            go_meet
            case rel => exact ⟨_, (wrap64 (Int.tmod (IntKind.u64.wrap (a2)) (IntKind.u64.wrap (wrap64 (((a0.extract 0 ((ji4) : Int).toNat).size : Int) + 1))))), (wrap64 (Int.tmod (IntKind.u64.wrap (a1)) (IntKind.u64.wrap (wrap64 (((a0.extract 0 ((ji4) : Int).toNat).size : Int) + 1))))), (by first | rfl | (simp; done) | (rw [e_]; done) | (simp only [← hji4] <;> (first | rfl | simp)) | (simp [*]; done)), (by first | rfl | (simp; done) | (rw [e_]; done) | (simp only [← hji4] <;> (first | rfl | simp)) | (simp [*]; done)), H', ⟨by first | omega | exact Nat.le_refl _⟩, ⟨by repeat (first | (with_reducible first | exact HB.out | apply below_alloc | apply pw_below_drewN | apply below_drew1) | exact HB.out)⟩⟩
          · rw [if_neg c9] at H
            have c9b0 : decide ((wrap64 (Int.tmod (IntKind.u64.wrap (a2)) (IntKind.u64.wrap (wrap64 (((a0.extract 0 ((ji4) : Int).toNat).size : Int) + 1))))) < (wrap64 (Int.tmod (IntKind.u64.wrap (a1)) (IntKind.u64.wrap (wrap64 (((a0.extract 0 ((ji4) : Int).toNat).size : Int) + 1)))))) = false := decide_eq_false c9
            have hz_ : (a0.extract 0 ((ji4) : Int).toNat).size = ji4.toNat := (by rw [ByteArray.size_extract]; have := of_eq_true c6b0; omega)
            have e_ : IntKind.u64.wrap (wrap64 (((a0.extract 0 ((ji4) : Int).toNat).size : Int) + 1)) = max ji4 0 + 1 := (by rw [hz_, IntKind.wrap_u64]; unfold wrap64; omega)
            rw [e_] at c9b0
            clear c9
            (first | rw [c9b0] | (simp only [i64_w, i32_w]; rw [c9b0]) | skip)
            have H' := Aside0.mk H
            clear H
            go_wp2
            repeat (go_quiet (fail); try go_wp2)
            go_meet
            case rel => exact ⟨_, (wrap64 (Int.tmod (IntKind.u64.wrap (a1)) (IntKind.u64.wrap (wrap64 (((a0.extract 0 ((ji4) : Int).toNat).size : Int) + 1))))), (wrap64 (Int.tmod (IntKind.u64.wrap (a2)) (IntKind.u64.wrap (wrap64 (((a0.extract 0 ((ji4) : Int).toNat).size : Int) + 1))))), (by first | rfl | (simp; done) | (rw [e_]; done) | (simp only [← hji4] <;> (first | rfl | simp)) | (simp [*]; done)), (by first | rfl | (simp; done) | (rw [e_]; done) | (simp only [← hji4] <;> (first | rfl | simp)) | (simp [*]; done)), H', ⟨by first | omega | exact Nat.le_refl _⟩, ⟨by repeat (first | (with_reducible first | exact HB.out | apply below_alloc | apply pw_below_drewN | apply below_drew1) | exact HB.out)⟩⟩
        case rest =>
          clear HC8
          try clear p2
          try clear c5
          try clear c5b0
          try clear c5b1
          try clear c6
          try clear c6b0
          try clear c6b1
          try clear p6
          try clear c7
          try clear c7b0
          try clear c7b1
          try clear c9
          try clear c9b0
          obtain ⟨kq, x8_7, x9_7, rfl, rfl, HA, HJ7, HB⟩ := hcut
          generalize hsx0 : a0.extract 0 ((ji4) : Int).toNat = sx at *
          cases kq with
          | zero => exact absurd HA.out (by simp [fluxionlaw04_TokenLines.j0])
          | succ kj7 =>
            have H := HA.out
            clear HA
            simp only [fluxionlaw04_TokenLines.j0] at H
            replace H := Option.bind_eq_some_iff.mp H
            obtain ⟨⟨t263, t264, t265⟩, A100, H⟩ := H
            replace H : ((token_Line.f kj7 sx x9_7).bind fun bt266 => ((token_Line.f kj7 sx (sx.size : Int)).bind fun bt269 => (if t265 = 0 then (if bt266.2.2 = 0 then (if bt269.2.2 = 0 then (if t263 < 1 then (fluxionlaw04_TokenLines.j1 kj7 sx x8_7 t264 bt269.1 true) else (if t264 < 1 then (fluxionlaw04_TokenLines.j1 kj7 sx x8_7 t264 bt269.1 true) else (if bt269.2.1 < 1 then (fluxionlaw04_TokenLines.j1 kj7 sx x8_7 t264 bt269.1 true) else (if t263 > bt266.1 then (fluxionlaw04_TokenLines.j1 kj7 sx x8_7 t264 bt269.1 true) else (if bt266.1 > bt269.1 then (fluxionlaw04_TokenLines.j1 kj7 sx x8_7 t264 bt269.1 true) else (if t263 = bt266.1 then (fluxionlaw04_TokenLines.j1 kj7 sx x8_7 t264 bt269.1 ((wrap64 (bt266.2.1 - t264)) != (wrap64 (x9_7 - x8_7)))) else (fluxionlaw04_TokenLines.j1 kj7 sx x8_7 t264 bt269.1 false))))))) else (fluxionlaw04_TokenLines.j1 kj7 sx x8_7 t264 bt269.1 true)) else (fluxionlaw04_TokenLines.j1 kj7 sx x8_7 t264 bt269.1 true)) else (fluxionlaw04_TokenLines.j1 kj7 sx x8_7 t264 bt269.1 true)))) = some r := H
            have A10 := Aside0.mk A100
            clear A100
            replace H := Option.bind_eq_some_iff.mp H
            obtain ⟨⟨t266, t267, t268⟩, A110, H⟩ := H
            replace H : ((token_Line.f kj7 sx (sx.size : Int)).bind fun bt269 => (if t265 = 0 then (if t268 = 0 then (if bt269.2.2 = 0 then (if t263 < 1 then (fluxionlaw04_TokenLines.j1 kj7 sx x8_7 t264 bt269.1 true) else (if t264 < 1 then (fluxionlaw04_TokenLines.j1 kj7 sx x8_7 t264 bt269.1 true) else (if bt269.2.1 < 1 then (fluxionlaw04_TokenLines.j1 kj7 sx x8_7 t264 bt269.1 true) else (if t263 > t266 then (fluxionlaw04_TokenLines.j1 kj7 sx x8_7 t264 bt269.1 true) else (if t266 > bt269.1 then (fluxionlaw04_TokenLines.j1 kj7 sx x8_7 t264 bt269.1 true) else (if t263 = t266 then (fluxionlaw04_TokenLines.j1 kj7 sx x8_7 t264 bt269.1 ((wrap64 (t267 - t264)) != (wrap64 (x9_7 - x8_7)))) else (fluxionlaw04_TokenLines.j1 kj7 sx x8_7 t264 bt269.1 false))))))) else (fluxionlaw04_TokenLines.j1 kj7 sx x8_7 t264 bt269.1 true)) else (fluxionlaw04_TokenLines.j1 kj7 sx x8_7 t264 bt269.1 true)) else (fluxionlaw04_TokenLines.j1 kj7 sx x8_7 t264 bt269.1 true))) = some r := H
            have A11 := Aside0.mk A110
            clear A110
            replace H := Option.bind_eq_some_iff.mp H
            obtain ⟨⟨t269, t270, t271⟩, A120, H⟩ := H
            replace H : (if t265 = 0 then (if t268 = 0 then (if t271 = 0 then (if t263 < 1 then (fluxionlaw04_TokenLines.j1 kj7 sx x8_7 t264 t269 true) else (if t264 < 1 then (fluxionlaw04_TokenLines.j1 kj7 sx x8_7 t264 t269 true) else (if t270 < 1 then (fluxionlaw04_TokenLines.j1 kj7 sx x8_7 t264 t269 true) else (if t263 > t266 then (fluxionlaw04_TokenLines.j1 kj7 sx x8_7 t264 t269 true) else (if t266 > t269 then (fluxionlaw04_TokenLines.j1 kj7 sx x8_7 t264 t269 true) else (if t263 = t266 then (fluxionlaw04_TokenLines.j1 kj7 sx x8_7 t264 t269 ((wrap64 (t267 - t264)) != (wrap64 (x9_7 - x8_7)))) else (fluxionlaw04_TokenLines.j1 kj7 sx x8_7 t264 t269 false))))))) else (fluxionlaw04_TokenLines.j1 kj7 sx x8_7 t264 t269 true)) else (fluxionlaw04_TokenLines.j1 kj7 sx x8_7 t264 t269 true)) else (fluxionlaw04_TokenLines.j1 kj7 sx x8_7 t264 t269 true)) = some r := H
            have A12 := Aside0.mk A120
            clear A120
            have HC13 := Aside0.mk H
            clear H
            go_upto_region 10 with (first | (go_at_call 19; (with_reducible refine (token_Line.calls kj7 sx x8_7 t263 t264 t265 _ A10.out).mono ?_); rintro e w' ⟨rfl, ⟨nd, rfl⟩⟩; (try first | exact ⟨rfl, _, World.drewN_drewN _ _ _⟩ | exact ⟨rfl, _, Eq.trans (World.drewN_drewN _ _ _) (congrArg (World.drewN _) (Nat.add_assoc _ _ _))⟩)) | (go_at_call 19; (with_reducible refine (token_Line.calls kj7 sx x9_7 t266 t267 t268 _ A11.out).mono ?_); rintro e w' ⟨rfl, ⟨nd, rfl⟩⟩; (try first | exact ⟨rfl, _, World.drewN_drewN _ _ _⟩ | exact ⟨rfl, _, Eq.trans (World.drewN_drewN _ _ _) (congrArg (World.drewN _) (Nat.add_assoc _ _ _))⟩)) | (go_at_call 19; (with_reducible refine (token_Line.calls kj7 sx (sx.size : Int) t269 t270 t271 _ A12.out).mono ?_); rintro e w' ⟨rfl, ⟨nd, rfl⟩⟩; (try first | exact ⟨rfl, _, World.drewN_drewN _ _ _⟩ | exact ⟨rfl, _, Eq.trans (World.drewN_drewN _ _ _) (congrArg (World.drewN _) (Nat.add_assoc _ _ _))⟩)))
            repeat (go_quiet (first | (go_at_call 19; (with_reducible refine (token_Line.calls kj7 sx x8_7 t263 t264 t265 _ A10.out).mono ?_); rintro e w' ⟨rfl, ⟨nd, rfl⟩⟩; (try first | exact ⟨rfl, _, World.drewN_drewN _ _ _⟩ | exact ⟨rfl, _, Eq.trans (World.drewN_drewN _ _ _) (congrArg (World.drewN _) (Nat.add_assoc _ _ _))⟩)) | (go_at_call 19; (with_reducible refine (token_Line.calls kj7 sx x9_7 t266 t267 t268 _ A11.out).mono ?_); rintro e w' ⟨rfl, ⟨nd, rfl⟩⟩; (try first | exact ⟨rfl, _, World.drewN_drewN _ _ _⟩ | exact ⟨rfl, _, Eq.trans (World.drewN_drewN _ _ _) (congrArg (World.drewN _) (Nat.add_assoc _ _ _))⟩)) | (go_at_call 19; (with_reducible refine (token_Line.calls kj7 sx (sx.size : Int) t269 t270 t271 _ A12.out).mono ?_); rintro e w' ⟨rfl, ⟨nd, rfl⟩⟩; (try first | exact ⟨rfl, _, World.drewN_drewN _ _ _⟩ | exact ⟨rfl, _, Eq.trans (World.drewN_drewN _ _ _) (congrArg (World.drewN _) (Nat.add_assoc _ _ _))⟩))); go_upto_region 10 with (first | (go_at_call 19; (with_reducible refine (token_Line.calls kj7 sx x8_7 t263 t264 t265 _ A10.out).mono ?_); rintro e w' ⟨rfl, ⟨nd, rfl⟩⟩; (try first | exact ⟨rfl, _, World.drewN_drewN _ _ _⟩ | exact ⟨rfl, _, Eq.trans (World.drewN_drewN _ _ _) (congrArg (World.drewN _) (Nat.add_assoc _ _ _))⟩)) | (go_at_call 19; (with_reducible refine (token_Line.calls kj7 sx x9_7 t266 t267 t268 _ A11.out).mono ?_); rintro e w' ⟨rfl, ⟨nd, rfl⟩⟩; (try first | exact ⟨rfl, _, World.drewN_drewN _ _ _⟩ | exact ⟨rfl, _, Eq.trans (World.drewN_drewN _ _ _) (congrArg (World.drewN _) (Nat.add_assoc _ _ _))⟩)) | (go_at_call 19; (with_reducible refine (token_Line.calls kj7 sx (sx.size : Int) t269 t270 t271 _ A12.out).mono ?_); rintro e w' ⟨rfl, ⟨nd, rfl⟩⟩; (try first | exact ⟨rfl, _, World.drewN_drewN _ _ _⟩ | exact ⟨rfl, _, Eq.trans (World.drewN_drewN _ _ _) (congrArg (World.drewN _) (Nat.add_assoc _ _ _))⟩))))
            (try simp only [Act.put, List.setIfInBounds_toArray, List.set_cons_zero, List.set_cons_succ])
            go_cut [116] (fun v116 wc => ∃ (kq : Nat) (x116_12 : Bool), v116 = .bool x116_12 ∧ Aside0 (fluxionlaw04_TokenLines.j1 kq sx x8_7 t264 t269 x116_12 = some r) ∧ Aside0 (kq ≤ kj7) ∧ Aside0 (Below w.heap.size w wc))
            case first =>
              have H := HC13.out
              clear HC13
              by_cases c14 : t265 = 0
              · rw [if_pos c14] at H
                have c14b0 : (t265 == 0) = true := beq_iff_eq.mpr c14
                have c14b1 : (t265 != 0) = false := bne_eq_false_iff_eq.mpr c14
                clear c14
                (first | rw [c14b0] | (simp only [i64_w, i32_w]; rw [c14b0]) | skip)
                by_cases c15 : t268 = 0
                · rw [if_pos c15] at H
                  have c15b0 : (t268 == 0) = true := beq_iff_eq.mpr c15
                  have c15b1 : (t268 != 0) = false := bne_eq_false_iff_eq.mpr c15
                  clear c15
                  by_cases c16 : t271 = 0
                  · rw [if_pos c16] at H
                    have c16b0 : (t271 == 0) = true := beq_iff_eq.mpr c16
                    have c16b1 : (t271 != 0) = false := bne_eq_false_iff_eq.mpr c16
                    clear c16
                    by_cases c17 : t263 < 1
                    · rw [if_pos c17] at H
                      have c17b0 : decide (t263 < 1) = true := decide_eq_true c17
                      clear c17
                      have H' := Aside0.mk H
                      clear H
                      go_wp2
                      repeat (go_quiet (fail); try go_wp2)
                      go_meet
                      case rel => exact ⟨_, (true), (by first | rfl | (simp; done) | (simp [*]; done)), H', ⟨by have := HJ7.out; first | omega | exact Nat.le_refl _⟩, ⟨by repeat (first | (with_reducible first | exact HB.out | apply below_alloc | apply pw_below_drewN | apply below_drew1) | exact HB.out)⟩⟩
                    · rw [if_neg c17] at H
                      have c17b0 : decide (t263 < 1) = false := decide_eq_false c17
                      clear c17
                      by_cases c18 : t264 < 1
                      · rw [if_pos c18] at H
                        have c18b0 : decide (t264 < 1) = true := decide_eq_true c18
                        clear c18
                        have H' := Aside0.mk H
                        clear H
                        go_wp2
                        repeat (go_quiet (fail); try go_wp2)
                        go_meet
                        case rel => exact ⟨_, (true), (by first | rfl | (simp; done) | (simp [*]; done)), H', ⟨by have := HJ7.out; first | omega | exact Nat.le_refl _⟩, ⟨by repeat (first | (with_reducible first | exact HB.out | apply below_alloc | apply pw_below_drewN | apply below_drew1) | exact HB.out)⟩⟩
                      · rw [if_neg c18] at H
                        have c18b0 : decide (t264 < 1) = false := decide_eq_false c18
                        clear c18
                        by_cases c19 : t270 < 1
                        · rw [if_pos c19] at H
                          have c19b0 : decide (t270 < 1) = true := decide_eq_true c19
                          clear c19
                          have H' := Aside0.mk H
                          clear H
                          go_wp2
                          repeat (go_quiet (fail); try go_wp2)
                          go_meet
                          case rel => exact ⟨_, (true), (by first | rfl | (simp; done) | (simp [*]; done)), H', ⟨by have := HJ7.out; first | omega | exact Nat.le_refl _⟩, ⟨by repeat (first | (with_reducible first | exact HB.out | apply below_alloc | apply pw_below_drewN | apply below_drew1) | exact HB.out)⟩⟩
                        · rw [if_neg c19] at H
                          have c19b0 : decide (t270 < 1) = false := decide_eq_false c19
                          clear c19
                          by_cases c20 : t263 > t266
                          · rw [if_pos c20] at H
                            have c20b0 : decide (t266 < t263) = true := decide_eq_true c20
                            clear c20
                            have H' := Aside0.mk H
                            clear H
                            go_wp2
                            repeat (go_quiet (fail); try go_wp2)
                            go_meet
                            case rel => exact ⟨_, (true), (by first | rfl | (simp; done) | (simp [*]; done)), H', ⟨by have := HJ7.out; first | omega | exact Nat.le_refl _⟩, ⟨by repeat (first | (with_reducible first | exact HB.out | apply below_alloc | apply pw_below_drewN | apply below_drew1) | exact HB.out)⟩⟩
                          · rw [if_neg c20] at H
                            have c20b0 : decide (t266 < t263) = false := decide_eq_false c20
                            clear c20
                            by_cases c21 : t266 > t269
                            · rw [if_pos c21] at H
                              have c21b0 : decide (t269 < t266) = true := decide_eq_true c21
                              clear c21
                              have H' := Aside0.mk H
                              clear H
                              go_wp2
                              repeat (go_quiet (fail); try go_wp2)
                              go_meet
                              case rel => exact ⟨_, (true), (by first | rfl | (simp; done) | (simp [*]; done)), H', ⟨by have := HJ7.out; first | omega | exact Nat.le_refl _⟩, ⟨by repeat (first | (with_reducible first | exact HB.out | apply below_alloc | apply pw_below_drewN | apply below_drew1) | exact HB.out)⟩⟩
                            · rw [if_neg c21] at H
                              have c21b0 : decide (t269 < t266) = false := decide_eq_false c21
                              clear c21
                              by_cases c22 : t263 = t266
                              · rw [if_pos c22] at H
                                have c22b0 : (t263 == t266) = true := beq_iff_eq.mpr c22
                                have c22b1 : (t263 != t266) = false := bne_eq_false_iff_eq.mpr c22
                                clear c22
                                have H' := Aside0.mk H
                                clear H
                                go_wp2
                                repeat (go_quiet (fail); try go_wp2)
                                go_meet
                                case rel => exact ⟨_, (((wrap64 (t267 - t264)) != (wrap64 (x9_7 - x8_7)))), (by first | rfl | (simp; done) | (simp [*]; done)), H', ⟨by have := HJ7.out; first | omega | exact Nat.le_refl _⟩, ⟨by repeat (first | (with_reducible first | exact HB.out | apply below_alloc | apply pw_below_drewN | apply below_drew1) | exact HB.out)⟩⟩
                              · rw [if_neg c22] at H
                                have c22b0 : (t263 == t266) = false := beq_eq_false_iff_ne.mpr c22
                                have c22b1 : (t263 != t266) = true := bne_iff_ne.mpr c22
                                have H' := Aside0.mk H
                                clear H
                                go_wp2
                                repeat (go_quiet (fail); try go_wp2)
                                go_meet
                                case rel => exact ⟨_, (false), (by first | rfl | (simp; done) | (simp [*]; done)), H', ⟨by have := HJ7.out; first | omega | exact Nat.le_refl _⟩, ⟨by repeat (first | (with_reducible first | exact HB.out | apply below_alloc | apply pw_below_drewN | apply below_drew1) | exact HB.out)⟩⟩
                  · rw [if_neg c16] at H
                    have c16b0 : (t271 == 0) = false := beq_eq_false_iff_ne.mpr c16
                    have c16b1 : (t271 != 0) = true := bne_iff_ne.mpr c16
                    have H' := Aside0.mk H
                    clear H
                    go_wp2
                    repeat (go_quiet (fail); try go_wp2)
                    go_meet
                    case rel => exact ⟨_, (true), (by first | rfl | (simp; done) | (simp [*]; done)), H', ⟨by have := HJ7.out; first | omega | exact Nat.le_refl _⟩, ⟨by repeat (first | (with_reducible first | exact HB.out | apply below_alloc | apply pw_below_drewN | apply below_drew1) | exact HB.out)⟩⟩
                · rw [if_neg c15] at H
                  have c15b0 : (t268 == 0) = false := beq_eq_false_iff_ne.mpr c15
                  have c15b1 : (t268 != 0) = true := bne_iff_ne.mpr c15
                  have H' := Aside0.mk H
                  clear H
                  go_wp2
                  repeat (go_quiet (fail); try go_wp2)
                  go_meet
                  case rel => exact ⟨_, (true), (by first | rfl | (simp; done) | (simp [*]; done)), H', ⟨by have := HJ7.out; first | omega | exact Nat.le_refl _⟩, ⟨by repeat (first | (with_reducible first | exact HB.out | apply below_alloc | apply pw_below_drewN | apply below_drew1) | exact HB.out)⟩⟩
              · rw [if_neg c14] at H
                have c14b0 : (t265 == 0) = false := beq_eq_false_iff_ne.mpr c14
                have c14b1 : (t265 != 0) = true := bne_iff_ne.mpr c14
                (first | rw [c14b0] | (simp only [i64_w, i32_w]; rw [c14b0]) | skip)
                have H' := Aside0.mk H
                clear H
                go_wp2
                repeat (go_quiet (fail); try go_wp2)
                go_meet
                case rel => exact ⟨_, (true), (by first | rfl | (simp; done) | (simp [*]; done)), H', ⟨by have := HJ7.out; first | omega | exact Nat.le_refl _⟩, ⟨by repeat (first | (with_reducible first | exact HB.out | apply below_alloc | apply pw_below_drewN | apply below_drew1) | exact HB.out)⟩⟩
            case rest =>
              clear HC13
              try clear c1
              try clear c2
              try clear p2
              try clear c5
              try clear c5b0
              try clear c5b1
              try clear c6
              try clear c6b0
              try clear c6b1
              try clear p6
              try clear c7
              try clear c7b0
              try clear c7b1
              try clear c9
              try clear c9b0
              try clear c14
              try clear c14b0
              try clear c14b1
              try clear c15
              try clear c15b0
              try clear c15b1
              try clear c16
              try clear c16b0
              try clear c16b1
              try clear c17
              try clear c17b0
              try clear c18
              try clear c18b0
              try clear c19
              try clear c19b0
              try clear c20
              try clear c20b0
              try clear c21
              try clear c21b0
              try clear c22
              try clear c22b0
              try clear c22b1
              try clear p2
              try clear p6
              obtain ⟨kq, x116_12, rfl, HA, HJ12, HB⟩ := hcut
              cases kq with
              | zero => exact absurd HA.out (by simp [fluxionlaw04_TokenLines.j1])
              | succ kj12 =>
                have H := HA.out
                clear HA
                simp only [fluxionlaw04_TokenLines.j1] at H
                by_cases c23 : x116_12 = true
                · subst c23
                  have H1 : (some false) = some r := by rw [if_pos rfl] at H; exact H
                  clear H
                  have H := H1
                  clear H1
                  obtain rfl := Option.some.inj H
                  go_wp2
                  repeat (go_quiet (fail); try go_wp2)
                  go_ret
                  exact ⟨by first | rfl | (simp [errW_none, errW_some] <;> rfl) | (simp only [← hji4]; first | rfl | (simp [errW_none, errW_some] <;> rfl)) | (simp [*, errW_none, errW_some] <;> rfl), by repeat (first | (with_reducible first | exact HB.out | apply below_alloc | apply pw_below_drewN | apply below_drew1) | exact HB.out)⟩
                · replace c23 := Bool.eq_false_iff.mpr c23
                  subst c23
                  have H1 : (fluxionlaw04_TokenLines.l0 kj12 sx x8_7 t264 t269 0 0) = some r := by rw [if_neg (show ¬ (false = true) by decide)] at H; exact H
                  clear H
                  have H := H1
                  clear H1
                  have H' := Aside0.mk H
                  clear H
                  go_wp2
                  repeat (go_quiet (fail); try go_wp2)
                  go_loopg [20, 21] kj12 (fun kq v20 v21 w' => ∃ (x20_3 : Int) (x21_3 : Int), v20 = .int .i64 x20_3 ∧ v21 = .int .i64 x21_3 ∧ Aside0 (fluxionlaw04_TokenLines.l0 kq sx x8_7 t264 t269 x20_3 x21_3 = some r) ∧ Aside0 (kq ≤ kj12) ∧ Aside0 (Below w.heap.size w w'))
                  case atStart => exact ⟨(0), (0), (by first | rfl | (simp; done) | (simp [*]; done)), (by first | rfl | (simp; done) | (simp [*]; done)), H', ⟨Nat.le_refl _⟩, ⟨by repeat (first | (with_reducible first | exact HB.out | apply below_alloc | apply pw_below_drewN | apply below_drew1) | exact HB.out)⟩⟩
                  case round =>
                    clear H'
                    try clear c1
                    try clear c2
                    try clear p2
                    try clear c5
                    try clear c5b0
                    try clear c5b1
                    try clear c6
                    try clear c6b0
                    try clear c6b1
                    try clear p6
                    try clear c7
                    try clear c7b0
                    try clear c7b1
                    try clear c9
                    try clear c9b0
                    try clear c14
                    try clear c14b0
                    try clear c14b1
                    try clear c15
                    try clear c15b0
                    try clear c15b1
                    try clear c16
                    try clear c16b0
                    try clear c16b1
                    try clear c17
                    try clear c17b0
                    try clear c18
                    try clear c18b0
                    try clear c19
                    try clear c19b0
                    try clear c20
                    try clear c20b0
                    try clear c21
                    try clear c21b0
                    try clear c22
                    try clear c22b0
                    try clear c22b1
                    try clear c23
                    try clear p2
                    try clear p6
                    obtain ⟨x20_3, x21_3, rfl, rfl, HA, HK3, HB⟩ := hrel
                    cases gk with
                    | zero => exact absurd HA.out (by simp [fluxionlaw04_TokenLines.l0])
                    | succ k3 =>
                      have H := HA.out
                      clear HA
                      simp only [fluxionlaw04_TokenLines.l0] at H
                      by_cases c24 : x21_3 < (sx.size : Int)
                      · rw [if_pos c24] at H
                        have c24b0 : decide (x21_3 < (sx.size : Int)) = true := decide_eq_true c24
                        clear c24
                        by_cases c25 : 0 ≤ x21_3
                        · rw [if_pos c25] at H
                          have c25b0 : decide (0 ≤ x21_3) = true := decide_eq_true c25
                          clear c25
                          by_cases c27 : (bt sx x21_3) = 10
                          · rw [if_pos c27] at H
                            have c27b0 : ((bt sx x21_3) == 10) = true := beq_iff_eq.mpr c27
                            have c27b1 : ((bt sx x21_3) != 10) = false := bne_eq_false_iff_eq.mpr c27
                            clear c27
                            have H' := Aside0.mk H
                            clear H
                            have p26 : 0 ≤ (x21_3 : Int) := of_decide_eq_true (by first | (with_reducible assumption) | assumption)
                            have q26 : x21_3 < (sx.size : Int) := of_decide_eq_true (by first | (with_reducible assumption) | assumption)
                            have hx26 := bt_at sx x21_3
                            replace p26 := eq_true p26
                            replace q26 := eq_true q26
                            go_wp2
                            repeat (go_quiet (fail); try go_wp2)
                            go_roundg k3
                            case measure => have := HJ7.out; have := HJ12.out; have := HK3.out; omega
                            case rel => exact ⟨(wrap64 (x20_3 + 1)), (wrap64 (x21_3 + 1)), (by first | rfl | (simp; done) | (simp [*]; done)), (by first | rfl | (simp; done) | (simp [*]; done)), H', ⟨by have := HJ7.out; have := HJ12.out; have := HK3.out; omega⟩, ⟨by repeat (first | (with_reducible first | exact HB.out | apply below_alloc | apply pw_below_drewN | apply below_drew1) | exact HB.out)⟩⟩
                          · rw [if_neg c27] at H
                            have c27b0 : ((bt sx x21_3) == 10) = false := beq_eq_false_iff_ne.mpr c27
                            have c27b1 : ((bt sx x21_3) != 10) = true := bne_iff_ne.mpr c27
                            have H' := Aside0.mk H
                            clear H
                            have p26 : 0 ≤ (x21_3 : Int) := of_decide_eq_true (by first | (with_reducible assumption) | assumption)
                            have q26 : x21_3 < (sx.size : Int) := of_decide_eq_true (by first | (with_reducible assumption) | assumption)
                            have hx26 := bt_at sx x21_3
                            replace p26 := eq_true p26
                            replace q26 := eq_true q26
                            go_wp2
                            repeat (go_quiet (fail); try go_wp2)
                            go_roundg k3
                            case measure => have := HJ7.out; have := HJ12.out; have := HK3.out; omega
                            case rel => exact ⟨(x20_3), (wrap64 (x21_3 + 1)), (by first | rfl | (simp; done) | (simp [*]; done)), (by first | rfl | (simp; done) | (simp [*]; done)), H', ⟨by have := HJ7.out; have := HJ12.out; have := HK3.out; omega⟩, ⟨by repeat (first | (with_reducible first | exact HB.out | apply below_alloc | apply pw_below_drewN | apply below_drew1) | exact HB.out)⟩⟩
                        · rw [if_neg c25] at H
                          exact absurd H (by simp)
                      · rw [if_neg c24] at H
                        have c24b0 : decide (x21_3 < (sx.size : Int)) = false := decide_eq_false c24
                        clear c24
                        by_cases c28 : t269 = (wrap64 (x20_3 + 1))
                        · rw [if_pos c28] at H
                          have c28b0 : (t269 == (wrap64 (x20_3 + 1))) = true := beq_iff_eq.mpr c28
                          have c28b1 : (t269 != (wrap64 (x20_3 + 1))) = false := bne_eq_false_iff_eq.mpr c28
                          clear c28
                          by_cases c29 : x8_7 = 0
                          · rw [if_pos c29] at H
                            have c29b0 : (x8_7 == 0) = true := beq_iff_eq.mpr c29
                            have c29b1 : (x8_7 != 0) = false := bne_eq_false_iff_eq.mpr c29
                            clear c29
                            replace H := Option.bind_eq_some_iff.mp H
                            obtain ⟨t272, A300, H⟩ := H
                            replace H : (some t272) = some r := H
                            have A30 := Aside0.mk A300
                            clear A300
                            obtain rfl := Option.some.inj H
                            go_wp2_with (first | (go_at_call 17; (with_reducible refine (fluxionlaw04_alive.calls k3  t272 _ ?side1 A30.out).mono ?_); (case side1 => exact GW.below HG.out (by repeat (first | (with_reducible first | exact HB.out | apply below_alloc | apply pw_below_drewN | apply below_drew1) | exact HB.out))); rintro e w31 ⟨rfl, hb⟩; have n0_ := Aside0.mk (below_step (by repeat (first | (with_reducible first | exact HB.out | apply below_alloc | apply pw_below_drewN | apply below_drew1) | exact HB.out)) hb); clear HB; have HB := n0_; clear n0_; (try clear hb); (try clear hb2); (try clear hk); (try clear hi)))
                            repeat (go_quiet (first | (go_at_call 17; (with_reducible refine (fluxionlaw04_alive.calls k3  t272 _ ?side1 A30.out).mono ?_); (case side1 => exact GW.below HG.out (by repeat (first | (with_reducible first | exact HB.out | apply below_alloc | apply pw_below_drewN | apply below_drew1) | exact HB.out))); rintro e w31 ⟨rfl, hb⟩; have n0_ := Aside0.mk (below_step (by repeat (first | (with_reducible first | exact HB.out | apply below_alloc | apply pw_below_drewN | apply below_drew1) | exact HB.out)) hb); clear HB; have HB := n0_; clear n0_; (try clear hb); (try clear hb2); (try clear hk); (try clear hi))); try go_wp2_with (first | (go_at_call 17; (with_reducible refine (fluxionlaw04_alive.calls k3  t272 _ ?side1 A30.out).mono ?_); (case side1 => exact GW.below HG.out (by repeat (first | (with_reducible first | exact HB.out | apply below_alloc | apply pw_below_drewN | apply below_drew1) | exact HB.out))); rintro e w31 ⟨rfl, hb⟩; have n0_ := Aside0.mk (below_step (by repeat (first | (with_reducible first | exact HB.out | apply below_alloc | apply pw_below_drewN | apply below_drew1) | exact HB.out)) hb); clear HB; have HB := n0_; clear n0_; (try clear hb); (try clear hb2); (try clear hk); (try clear hi))))
                            go_ret
                            exact ⟨by first | rfl | (simp [errW_none, errW_some] <;> rfl) | (simp only [← hji4]; first | rfl | (simp [errW_none, errW_some] <;> rfl)) | (simp [*, errW_none, errW_some] <;> rfl), by repeat (first | (with_reducible first | exact HB.out | apply below_alloc | apply pw_below_drewN | apply below_drew1) | exact HB.out)⟩
                          · rw [if_neg c29] at H
                            have c29b0 : (x8_7 == 0) = false := beq_eq_false_iff_ne.mpr c29
                            have c29b1 : (x8_7 != 0) = true := bne_iff_ne.mpr c29
                            obtain ⟨ji32, hji32⟩ : ∃ j_ : Int, (wrap64 (x8_7 - 1)) = j_ := ⟨_, rfl⟩
                            replace H : (if 0 ≤ (ji32) then (if (ji32) < (sx.size : Int) then (if ((t264 == 1) == ((bt sx (ji32)) == 10)) = true then ((fluxionlaw04_alive.f k3).bind fun t273 => (some t273)) else (some false)) else (none)) else (none)) = some r := by first | (rw [hji32] at H; exact H) | (simp only [hji32] at H ⊢; exact H)
                            have hji32w : (IntKind.i64.wrap (x8_7 - 1)) = ji32 := (i64_w _).trans hji32
                            by_cases c33 : 0 ≤ (ji32)
                            · rw [if_pos c33] at H
                              have c33b0 : decide (0 ≤ (ji32)) = true := decide_eq_true c33
                              clear c33
                              by_cases c34 : (ji32) < (sx.size : Int)
                              · rw [if_pos c34] at H
                                have c34b0 : decide ((ji32) < (sx.size : Int)) = true := decide_eq_true c34
                                clear c34
                                by_cases c36 : ((t264 == 1) == ((bt sx (ji32)) == 10)) = true
                                · rw [if_pos c36] at H
                                  have c36b0 : ((t264 == 1) == ((bt sx (ji32)) == 10)) = true := c36
                                  (try (have c36b1 : decide ((t264 == 1) = ((bt sx (ji32)) == 10)) = true := by simpa using c36))
                                  (try (have c36b2 : ((t264 == 1) == ((bt sx (ji32)) == 10)) = true := by simpa using c36))
                                  clear c36
                                  replace H := Option.bind_eq_some_iff.mp H
                                  obtain ⟨t273, A370, H⟩ := H
                                  replace H : (some t273) = some r := H
                                  have A37 := Aside0.mk A370
                                  clear A370
                                  obtain rfl := Option.some.inj H
                                  have p35 : 0 ≤ ((ji32) : Int) := of_decide_eq_true (by first | (with_reducible assumption) | assumption)
                                  have q35 : (ji32) < (sx.size : Int) := of_decide_eq_true (by first | (with_reducible assumption) | assumption)
                                  have hx35 := bt_at sx (ji32)
                                  replace p35 := eq_true p35
                                  replace q35 := eq_true q35
                                  go_wp2_with (first | (go_at_call 17; (with_reducible refine (fluxionlaw04_alive.calls k3  t273 _ ?side1 A37.out).mono ?_); (case side1 => exact GW.below HG.out (by repeat (first | (with_reducible first | exact HB.out | apply below_alloc | apply pw_below_drewN | apply below_drew1) | exact HB.out))); rintro e w38 ⟨rfl, hb⟩; have n0_ := Aside0.mk (below_step (by repeat (first | (with_reducible first | exact HB.out | apply below_alloc | apply pw_below_drewN | apply below_drew1) | exact HB.out)) hb); clear HB; have HB := n0_; clear n0_; (try clear hb); (try clear hb2); (try clear hk); (try clear hi)))
                                  repeat (go_quiet (first | (go_at_call 17; (with_reducible refine (fluxionlaw04_alive.calls k3  t273 _ ?side1 A37.out).mono ?_); (case side1 => exact GW.below HG.out (by repeat (first | (with_reducible first | exact HB.out | apply below_alloc | apply pw_below_drewN | apply below_drew1) | exact HB.out))); rintro e w38 ⟨rfl, hb⟩; have n0_ := Aside0.mk (below_step (by repeat (first | (with_reducible first | exact HB.out | apply below_alloc | apply pw_below_drewN | apply below_drew1) | exact HB.out)) hb); clear HB; have HB := n0_; clear n0_; (try clear hb); (try clear hb2); (try clear hk); (try clear hi))); try go_wp2_with (first | (go_at_call 17; (with_reducible refine (fluxionlaw04_alive.calls k3  t273 _ ?side1 A37.out).mono ?_); (case side1 => exact GW.below HG.out (by repeat (first | (with_reducible first | exact HB.out | apply below_alloc | apply pw_below_drewN | apply below_drew1) | exact HB.out))); rintro e w38 ⟨rfl, hb⟩; have n0_ := Aside0.mk (below_step (by repeat (first | (with_reducible first | exact HB.out | apply below_alloc | apply pw_below_drewN | apply below_drew1) | exact HB.out)) hb); clear HB; have HB := n0_; clear n0_; (try clear hb); (try clear hb2); (try clear hk); (try clear hi))))
                                  go_ret
                                  exact ⟨by first | rfl | (simp [errW_none, errW_some] <;> rfl) | (simp only [← hji4, ← hji32]; first | rfl | (simp [errW_none, errW_some] <;> rfl)) | (simp [*, errW_none, errW_some] <;> rfl), by repeat (first | (with_reducible first | exact HB.out | apply below_alloc | apply pw_below_drewN | apply below_drew1) | exact HB.out)⟩
                                · rw [if_neg c36] at H
                                  have c36b0 : ((t264 == 1) == ((bt sx (ji32)) == 10)) = false := by simpa using c36
                                  (try (have c36b1 : decide ((t264 == 1) = ((bt sx (ji32)) == 10)) = false := by simpa using c36))
                                  (try (have c36b2 : ((t264 == 1) == ((bt sx (ji32)) == 10)) = false := by simpa using c36))
                                  (try (have c36b3 : ¬ ((t264 == 1) = ((bt sx (ji32)) == 10)) := by simpa using c36))
                                  clear c36
                                  obtain rfl := Option.some.inj H
                                  have p35 : 0 ≤ ((ji32) : Int) := of_decide_eq_true (by first | (with_reducible assumption) | assumption)
                                  have q35 : (ji32) < (sx.size : Int) := of_decide_eq_true (by first | (with_reducible assumption) | assumption)
                                  have hx35 := bt_at sx (ji32)
                                  replace p35 := eq_true p35
                                  replace q35 := eq_true q35
                                  go_wp2
                                  repeat (go_quiet (fail); try go_wp2)
                                  go_ret
                                  exact ⟨by first | rfl | (simp [errW_none, errW_some] <;> rfl) | (simp only [← hji4, ← hji32]; first | rfl | (simp [errW_none, errW_some] <;> rfl)) | (simp [*, errW_none, errW_some] <;> rfl), by repeat (first | (with_reducible first | exact HB.out | apply below_alloc | apply pw_below_drewN | apply below_drew1) | exact HB.out)⟩
                              · rw [if_neg c34] at H
                                exact absurd H (by simp)
                            · rw [if_neg c33] at H
                              exact absurd H (by simp)
                        · rw [if_neg c28] at H
                          have c28b0 : (t269 == (wrap64 (x20_3 + 1))) = false := beq_eq_false_iff_ne.mpr c28
                          have c28b1 : (t269 != (wrap64 (x20_3 + 1))) = true := bne_iff_ne.mpr c28
                          obtain rfl := Option.some.inj H
                          go_wp2
                          repeat (go_quiet (fail); try go_wp2)
                          go_ret
                          exact ⟨by first | rfl | (simp [errW_none, errW_some] <;> rfl) | (simp only [← hji4]; first | rfl | (simp [errW_none, errW_some] <;> rfl)) | (simp [*, errW_none, errW_some] <;> rfl), by repeat (first | (with_reducible first | exact HB.out | apply below_alloc | apply pw_below_drewN | apply below_drew1) | exact HB.out)⟩
    · rw [if_neg c6] at H
      exact absurd H (by simp)
  · rw [if_neg c5] at H
    exact absurd H (by simp)
end Go.Proofs.YteobbnehdlcphaaDoor.P

