import Derived.Laws.Entries
import Derived.WalkKit
namespace Go.Proofs.FX
theorem cell_twice (w : World) (a : Addr) (u v : Value) (h : (w.cell? a).isSome = true) : ((w.setCell a u).setCell a v).cell? a = some v :=
  World.cell?_setCell_same' _ _ _ (by rw [World.cell?_setCell_same' w a u h]; rfl)
theorem le_add_cast (a b : Nat) : ((a : Int) ≤ (a : Int) + (b : Int)) = True := eq_true (by omega)
end Go.Proofs.FX

