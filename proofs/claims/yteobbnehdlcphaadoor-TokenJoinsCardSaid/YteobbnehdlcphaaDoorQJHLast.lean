import Derived.Test.YteobbnehdlcphaaDoorQJP10
namespace Go.Proofs.YteobbnehdlcphaaDoor.P
open Go.RowKit Go.Proofs.YteobbnehdlcphaaDoorW.PrintWords Go.Proofs.YteobbnehdlcphaaDoorW.PrintLast Go.Proofs.YteobbnehdlcphaaDoorW.PrintMore
def strings_LastIndex.f (k : Nat) (a0 : ByteArray) (a1 : ByteArray) : Option Int := if (a1.size : Int) = 1 then bytealg_LastIndexByteString.f k a0 (bt a1 0) else none
theorem strings_LastIndex.mono : ∀ a0 a1 k, LeO (strings_LastIndex.f k a0 a1) (strings_LastIndex.f (k + 1) a0 a1) := by
  intro a0 a1 k
  unfold strings_LastIndex.f
  exact LeO.ite (bytealg_LastIndexByteString.mono _ _ _) (LeO.none _)
set_option maxHeartbeats 8000000 in
set_option maxRecDepth 100000 in
theorem strings_LastIndex.calls (k : Nat) (a0 : ByteArray) (a1 : ByteArray) (r : Int) (w : World) (h : strings_LastIndex.f k a0 a1 = some r) :
    Calls Tryd.prog 42 #[.string a0, .string a1] w fun e w' => e = .returned (.int .i64 r) ∧ Drawn0 w w' := by
  unfold strings_LastIndex.f at h
  by_cases c4 : (a1.size : Int) = 1
  · rw [if_pos c4] at h
    have c3b0 : ((a1.size : Int) == 0) = false := beq_eq_false_iff_ne.mpr (by omega)
    have c3b1 : ((a1.size : Int) != 0) = true := bne_iff_ne.mpr (by omega)
    have c5b0 : decide (0 < (a1.size : Int)) = true := decide_eq_true (by omega)
    have c5b1 : decide (0 < a1.size) = true := decide_eq_true (by omega)
    have c4b0 : ((a1.size : Int) == 1) = true := beq_iff_eq.mpr c4
    have c4b1 : ((a1.size : Int) != 1) = false := bne_eq_false_iff_eq.mpr c4
    have q6 : 0 < a1.size := by omega
    clear c4
    have A7 := Aside0.mk h
    clear h
    have hx6 : ∀ h : 0 < a1.size, ((a1[0]'h).toNat : Int) = bt a1 0 := bt_at a1 0
    have qi6 : (0 < (a1.size : Int)) = True := eq_true (of_decide_eq_true (by assumption))
    replace q6 := eq_true q6
    go_enter Tryd.func42, Tryd.ntmps42
    go_wp2_with (first | ((with_reducible refine gate_callee (f := 69) rfl ?_); refine goesL_ (some 19) rfl rfl Tryd.func69 (by kernel_rfl) rfl #[.string a0, .int .u8 (bt a1 0)] rfl (by (try simp only [List.map_toArray, List.map_cons, List.map_nil]); first | done | rfl) ?_; (with_reducible refine (bytealg_LastIndexByteString.calls k a0 (bt a1 0) r _ A7.out).mono ?_); rintro e w' ⟨rfl, ⟨nd, rfl⟩⟩; refine ⟨_, rfl, ?_⟩))
    go_ret
    exact ⟨by first | rfl | (simp; done) | (simp [*]; done), by repeat (first | exact Drawn0.refl _ | apply Drawn0.step)⟩
  · rw [if_neg c4] at h
    cases h
end Go.Proofs.YteobbnehdlcphaaDoor.P

