import Derived.Test.YteobbnehdlcphaaDoorQJP0
import Derived.Test.YteobbnehdlcphaaDoorQJP1
import Derived.Test.YteobbnehdlcphaaDoorQJP11
import Derived.Test.YteobbnehdlcphaaDoorQJP2
import Derived.Test.YteobbnehdlcphaaDoorQJTD
namespace Go.Proofs.YteobbnehdlcphaaDoor.P
open Go.RowKit Go.Proofs.YteobbnehdlcphaaDoorW.PrintWords Go.Proofs.YteobbnehdlcphaaDoorW.PrintLast Go.Proofs.YteobbnehdlcphaaDoorW.PrintMore
open Go.Proofs.YteobbnehdlcphaaDoor
theorem alive_at : fluxionlaw04_alive.f 64 = some true := by kernel_rfl
theorem ev_alive : Ev (fun k => fluxionlaw04_alive.f k) true := by
  refine ⟨64, fun k hk => ?_⟩
  obtain ⟨d, rfl⟩ : ∃ d, k = 64 + d := ⟨k - 64, by omega⟩
  clear hk
  induction d with
  | zero => exact alive_at
  | succ d ih => exact fluxionlaw04_alive.mono _ _ ih
attribute [local irreducible] bt
end Go.Proofs.YteobbnehdlcphaaDoor.P

