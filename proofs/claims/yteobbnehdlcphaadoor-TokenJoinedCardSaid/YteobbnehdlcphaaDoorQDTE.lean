import Derived.Test.YteobbnehdlcphaaDoorQDP0
import Derived.Test.YteobbnehdlcphaaDoorQDP1
import Derived.Test.YteobbnehdlcphaaDoorQDP11
import Derived.Test.YteobbnehdlcphaaDoorQDP2
import Derived.Test.YteobbnehdlcphaaDoorQDTD
namespace Go.Proofs.YteobbnehdlcphaaDoor.P
open Go.RowKit Go.Proofs.YteobbnehdlcphaaDoorW.PrintWords Go.Proofs.YteobbnehdlcphaaDoorW.PrintLast Go.Proofs.YteobbnehdlcphaaDoorW.PrintMore
open Go.Proofs.YteobbnehdlcphaaDoor
theorem alive_at : fluxionlaw04_alive.f 64 = some true := by kernel_rfl
theorem ev_alive : Ev (fun k => fluxionlaw04_alive.f k) true := by
  refine ⟨64, fun k hk => ?_⟩
  obtain ⟨d, rfl⟩ : ∃ d, k = 64 + d := ⟨k - 64, by omega⟩
  clear hk
  induction d with
  | zero => exact alive_at
  | succ d ih => exact fluxionlaw04_alive.mono _ _ ih
attribute [local irreducible] bt
theorem short_f (a0 : ByteArray) : ∃ s : ByteArray, fluxionlaw04_short.f a0 = some s ∧ s.size ≤ 20002 := by
  have hm : mn (a0.size : Int) 20002 = ((min a0.size 20002 : Nat) : Int) := by unfold mn; split <;> omega
  refine ⟨a0.extract 0 (min a0.size 20002), ?_, ?_⟩
  · unfold fluxionlaw04_short.f
    rw [hm, if_pos (by omega), if_pos (by omega), Int.toNat_natCast]
  · rw [← len_eq, ext_upto, List.length_take]
    omega
end Go.Proofs.YteobbnehdlcphaaDoor.P

