import Derived.Laws.Externs
import Derived.Test.YtbkknoipgmlcmaaGreatDoorQSHSq
import Derived.Test.YtbkknoipgmlcmaaGreatDoorQSHShelf
set_option linter.unusedVariables false
set_option linter.unusedSimpArgs false
namespace Go.Proofs.YtbkknoipgmlcmaaGreatDoor.P
open Go.RowKit Go.Proofs.YtbkknoipgmlcmaaGreatDoorW.PrintWords Go.Proofs.YtbkknoipgmlcmaaGreatDoorW.PrintLast Go.Proofs.YtbkknoipgmlcmaaGreatDoorW.PrintMore
open Go.Proofs.FX
def strings_Join.f (l : List ByteArray) (_ : ByteArray) : Option ByteArray := match l with | [] => some ⟨#[]⟩ | [x] => some x | _ => none
set_option maxHeartbeats 1000000 in
set_option maxRecDepth 100000 in
theorem join_one (ad : Addr) (c : Nat) (x s : ByteArray) (w : World) (h : w.cell? ad = some (.string x)) :
    Calls Tryz.prog 105 #[.slice (some ad) 1 c, .string s] w fun e w' => e = .returned (.string x) ∧ Below w.heap.size w w' := by
  obtain ⟨ab, ao, asl⟩ := ad
  go_enter Tryz.func105, Tryz.ntmps105
  go_wp2
  go_ret
  exact ⟨rfl, Below.refl _ _⟩
theorem strings_Join.calls (A0 : Option Addr) (c0 : Nat) (l0 : List ByteArray) (a1 : ByteArray) (r : ByteArray) (w : World) (hr0 : Kd.C Kd.string w A0 l0.length l0) (hc0 : l0.length ≤ c0) (h : strings_Join.f l0 a1 = some r) :
    Calls Tryz.prog 105 #[.slice A0 l0.length c0, .string a1] w fun e w' => e = .returned (.string r) ∧ Below w.heap.size w w' := by
  match l0, h with
  | [], h =>
    obtain rfl := Option.some.inj h
    refine (Tryz.strings_Join_none A0 c0 a1 w).mono ?_
    rintro e w' ⟨rfl, rfl⟩
    exact ⟨rfl, Below.refl _ _⟩
  | [x], h =>
    obtain rfl := Option.some.inj h
    obtain ⟨ad, rfl, hx⟩ := Kd.at_string hr0 0 (by decide) (by simp)
    exact join_one ad c0 x a1 w hx
  | _ :: _ :: _, h => cases h
end Go.Proofs.YtbkknoipgmlcmaaGreatDoor.P

