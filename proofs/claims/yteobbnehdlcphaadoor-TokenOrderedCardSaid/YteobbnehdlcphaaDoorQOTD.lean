import Derived.Test.YteobbnehdlcphaaDoorQOP0
import Derived.Test.YteobbnehdlcphaaDoorQOP6
import Derived.Test.YteobbnehdlcphaaDoorQOP2
import Derived.Test.YteobbnehdlcphaaDoorQOP3
import Derived.Test.YteobbnehdlcphaaDoorQOP1
import Derived.Test.YteobbnehdlcphaaDoorQOP11
import Derived.Test.YteobbnehdlcphaaDoorQOG
import Derived.Test.YteobbnehdlcphaaDoorQOTC
import Derived.Test.YteobbnehdlcphaaDoorQOHJoin
namespace Go.Proofs.YteobbnehdlcphaaDoor.P
open Go.RowKit Go.Proofs.YteobbnehdlcphaaDoorW.PrintWords Go.Proofs.YteobbnehdlcphaaDoorW.PrintLast Go.Proofs.YteobbnehdlcphaaDoorW.PrintMore
open Go.Proofs.YteobbnehdlcphaaDoor
attribute [local irreducible] bt
theorem toB_toList (a : Tok.Bs) : (toB a).toList = a := by rw [toList_eq, toB_list]
theorem sm_of {n : Nat} (l : Tok.Bs) (h : l.length ≤ n) (hn : n ≤ 100000) : Sm (toB l) := by
  show (toB l).size ≤ _
  rw [toB_size]; omega
theorem rd_toS (ts : List Tok.T) (i : Nat) (h : i < ts.length) : rd_T44 (ts.map toS) (i : Int) = toS ts[i] := by
  unfold rd_T44
  rw [Int.toNat_natCast, List.getD_eq_getElem?_getD, List.getElem?_map, List.getElem?_eq_getElem h]
  rfl
end Go.Proofs.YteobbnehdlcphaaDoor.P

