import Derived.Test.YteobbnehdlcphaaDoorQDP0
import Derived.Test.YteobbnehdlcphaaDoorQDP1
import Derived.Test.YteobbnehdlcphaaDoorQDP3
import Derived.Test.YteobbnehdlcphaaDoorQDP4
import Derived.Test.YteobbnehdlcphaaDoorQDP6
import Derived.Test.YteobbnehdlcphaaDoorQDP11
import Derived.Test.YteobbnehdlcphaaDoorQDG
import Derived.Test.YteobbnehdlcphaaDoorQDTE
namespace Go.Proofs.YteobbnehdlcphaaDoor.Tok
theorem find_congr {α : Type} {p q : α → Bool} : ∀ l : List α, (∀ x ∈ l, p x = q x) → l.find? p = l.find? q
  | [], _ => rfl
  | x :: l, h => by
    rw [List.find?_cons, List.find?_cons, h x List.mem_cons_self, find_congr l (fun y hy => h y (List.mem_cons_of_mem _ hy))]
end Go.Proofs.YteobbnehdlcphaaDoor.Tok
namespace Go.Proofs.YteobbnehdlcphaaDoor.P
open Go.RowKit Go.Proofs.YteobbnehdlcphaaDoorW.PrintWords Go.Proofs.YteobbnehdlcphaaDoorW.PrintLast Go.Proofs.YteobbnehdlcphaaDoorW.PrintMore
open Go.Proofs.YteobbnehdlcphaaDoor
attribute [local irreducible] bt
end Go.Proofs.YteobbnehdlcphaaDoor.P

