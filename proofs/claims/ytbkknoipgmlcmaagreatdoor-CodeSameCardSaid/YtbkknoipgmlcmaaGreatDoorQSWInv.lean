import Derived.Test.YtbkknoipgmlcmaaGreatDoorQSWTab
namespace Go.Proofs.YtbkknoipgmlcmaaGreatDoorW.PrintLast
def up (b : Nat → Bool) (i : Nat) : Nat → Bool := fun j => if j = i then true else b j
end Go.Proofs.YtbkknoipgmlcmaaGreatDoorW.PrintLast

