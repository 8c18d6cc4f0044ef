import Derived.Test.YtbkknoipgmlcmaaGreatDoorQSC1
set_option linter.unusedVariables false
set_option linter.unusedSimpArgs false
namespace Go.Proofs.YtbkknoipgmlcmaaGreatDoor.P
theorem alive_at : fluxionlaw29_alive.f 64 = some true := by kernel_rfl
theorem ev_alive : Go.Proofs.YtbkknoipgmlcmaaGreatDoorW.PrintWords.Ev (fun k => fluxionlaw29_alive.f k) true := by
  refine ⟨64, fun k hk => ?_⟩
  obtain ⟨d, rfl⟩ : ∃ d, k = 64 + d := ⟨k - 64, by omega⟩
  clear hk
  induction d with
  | zero => exact alive_at
  | succ d ih => exact fluxionlaw29_alive.mono _ _ ih
end Go.Proofs.YtbkknoipgmlcmaaGreatDoor.P

