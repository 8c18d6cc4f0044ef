import Derived.Test.YteobbnehdlcphaaDoorQAWTab
namespace Go.Proofs.YteobbnehdlcphaaDoorW.PrintLast
def up (b : Nat → Bool) (i : Nat) : Nat → Bool := fun j => if j = i then true else b j
end Go.Proofs.YteobbnehdlcphaaDoorW.PrintLast

