import Derived.WalkKit
import Derived.KernelRfl
import Derived.Laws.Externs
import Derived.Laws.BitsLemmas
import Derived.Test.YtbkknoipgmlcmaaGreatDoorQSHSq
set_option linter.unusedVariables false
set_option linter.unusedSimpArgs false
namespace Go.Proofs.YtbkknoipgmlcmaaGreatDoor.P
open Go.RowKit Go.Proofs.YtbkknoipgmlcmaaGreatDoorW.PrintWords Go.Proofs.YtbkknoipgmlcmaaGreatDoorW.PrintLast Go.Proofs.YtbkknoipgmlcmaaGreatDoorW.PrintMore
open Go.Proofs.FX
set_option maxHeartbeats 1000000 in
set_option maxRecDepth 100000 in
theorem uses_calls (r1 : ByteArray) (r2 r3 r4 : Int) (r5 : Bool) (r6 r7 : Int) (w : World) :
    Calls Tryz.prog 42 #[.agg #[.string r1, .int .i64 r2, .int .i64 r3, .int .i64 r4, .bool r5, .int .i64 r6, .int .i64 r7]] w fun e w' => e = .returned (.agg #[.int .i64 r2, .int .i64 r3, .int .i64 r4]) ∧ Below w.heap.size w w' := by
  have hu72 := Tryz.underlying72
  go_enter Tryz.func42, Tryz.ntmps42
  go_wp2
  refine bodyPost_ret (by simp [results, Tryz.results42, go_sem]) rfl ⟨rfl, ?_⟩
  repeat (first | exact Below.refl _ _ | apply below_alloc | apply pw_below_drewN | apply below_drew1)
set_option maxHeartbeats 1000000 in
set_option maxRecDepth 100000 in
theorem fields_calls (b : Nat) (w : World) :
    Calls Tryz.prog 43 #[.pointer (some ⟨b, 0, none⟩)] w fun e w' => e = .returned (.agg #[.pointer (some ⟨b, 1, none⟩), .pointer (some ⟨b, 2, none⟩), .pointer (some ⟨b, 3, none⟩)]) ∧ Below w.heap.size w w' := by
  have hu63 := Tryz.underlying63
  go_enter Tryz.func43, Tryz.ntmps43
  go_wp2
  go_region
  try go_wp2
  refine bodyPost_ret (by simp [results, Tryz.results43, go_sem]) rfl ⟨rfl, ?_⟩
  exact (below_alloc (Below.refl _ _) _).drew
def code_uses.f (_ : ByteArray) (a1 a2 a3 : Int) (_ : Bool) (_ _ : Int) : Option (Int × Int × Int) := some (a1, a2, a3)
theorem code_uses.calls (a0 : ByteArray) (a1 a2 a3 : Int) (a4 : Bool) (a5 a6 : Int) (r1 r2 r3 : Int) (w : World) (h : code_uses.f a0 a1 a2 a3 a4 a5 a6 = some (r1, r2, r3)) :
    Calls Tryz.prog 42 #[.agg #[.string a0, .int .i64 a1, .int .i64 a2, .int .i64 a3, .bool a4, .int .i64 a5, .int .i64 a6]] w fun e w' => e = .returned (.agg #[.int .i64 r1, .int .i64 r2, .int .i64 r3]) ∧ Below w.heap.size w w' := by
  unfold code_uses.f at h
  simp only [Option.some.injEq, Prod.mk.injEq] at h
  obtain ⟨rfl, rfl, rfl⟩ := h
  exact uses_calls a0 a1 a2 a3 a4 a5 a6 w
def code_fields.f : Option Int := some 0
end Go.Proofs.YtbkknoipgmlcmaaGreatDoor.P

