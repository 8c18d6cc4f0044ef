import Derived.Test.YtbkknoipgmlcmaaGreatDoorQSHSq
set_option linter.unusedVariables false
set_option linter.unusedSimpArgs false
namespace Go.Proofs.YtbkknoipgmlcmaaGreatDoor.P
open Go.RowKit Go.Proofs.YtbkknoipgmlcmaaGreatDoorW.PrintWords Go.Proofs.YtbkknoipgmlcmaaGreatDoorW.PrintLast Go.Proofs.YtbkknoipgmlcmaaGreatDoorW.PrintMore
def frac_Text.f (_ : Int) (_ : Bool) (_ _ : List Int) : Option (ByteArray × Int) := none
theorem frac_Text.calls (a0_0 : Int) (a0_1 : Bool) (A0_2 : Option Addr) (c0_2 : Nat) (l0_2 : List Int) (A0_3 : Option Addr) (c0_3 : Nat) (l0_3 : List Int) (r1 : ByteArray) (r2 : Int) (w : World) (_ : GW w) (_ : Kd.C (Kd.int .u32) w A0_2 l0_2.length l0_2) (_ : l0_2.length ≤ c0_2) (_ : Kd.C (Kd.int .u32) w A0_3 l0_3.length l0_3) (_ : l0_3.length ≤ c0_3) (h : frac_Text.f a0_0 a0_1 l0_2 l0_3 = some (r1, r2)) :
    Calls Tryz.prog 107 #[.agg #[.int .i64 a0_0, .bool a0_1, .slice A0_2 l0_2.length c0_2, .slice A0_3 l0_3.length c0_3]] w fun e w' => e = .returned (.tuple #[.string r1, .int .i64 r2]) ∧ Below w.heap.size w w' := by cases h
end Go.Proofs.YtbkknoipgmlcmaaGreatDoor.P

