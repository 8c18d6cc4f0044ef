import Derived.Test.YteobbnehdlcphaaDoorQPP0
import Derived.Test.YteobbnehdlcphaaDoorQPP6
import Derived.Test.YteobbnehdlcphaaDoorQPP2
import Derived.Test.YteobbnehdlcphaaDoorQPP3
import Derived.Test.YteobbnehdlcphaaDoorQPP1
import Derived.Test.YteobbnehdlcphaaDoorQPP11
import Derived.Test.YteobbnehdlcphaaDoorQPG
import Derived.Test.YteobbnehdlcphaaDoorQPTB
import Derived.Test.YteobbnehdlcphaaDoorQPTA
import Derived.Test.YteobbnehdlcphaaDoorQPHJoin
namespace Go.Proofs.YteobbnehdlcphaaDoor.P
open Go.RowKit Go.Proofs.YteobbnehdlcphaaDoorW.PrintWords Go.Proofs.YteobbnehdlcphaaDoorW.PrintLast Go.Proofs.YteobbnehdlcphaaDoorW.PrintMore
open Go.Proofs.YteobbnehdlcphaaDoor
attribute [local irreducible] bt
theorem toB_app (a b : Tok.Bs) : toB a ++ toB b = toB (a ++ b) := toB_inj (by
  rw [toB_list]
  show ((toB a).append (toB b)).data.toList = _
  simp [toB])
theorem rd_toS (ts : List Tok.T) (i : Nat) (h : i < ts.length) : rd_T44 (ts.map toS) (i : Int) = toS ts[i] := by
  unfold rd_T44
  rw [Int.toNat_natCast, List.getD_eq_getElem?_getD, List.getElem?_map, List.getElem?_eq_getElem h]
  rfl
end Go.Proofs.YteobbnehdlcphaaDoor.P

