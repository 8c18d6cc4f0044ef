/- What the laws of the tokens share: the sample calls, equal lists, the shortened text, what a scan gives. -/
import Derived.Test.YteobbnehdlcphaaDoorP9
import Derived.Test.YteobbnehdlcphaaDoorP11
import Derived.Test.YteobbnehdlcphaaDoorP2
import Derived.Test.YteobbnehdlcphaaDoorTD
namespace Go.Proofs.YteobbnehdlcphaaDoor.P
open Go.RowKit Go.Proofs.YteobbnehdlcphaaDoorW.PrintWords Go.Proofs.YteobbnehdlcphaaDoorW.PrintLast Go.Proofs.YteobbnehdlcphaaDoorW.PrintMore
open Go.Proofs.YteobbnehdlcphaaDoor
theorem alive_at : fluxionlaw04_alive.f 64 = some true := by kernel_rfl
theorem ev_alive : Ev (fun k => fluxionlaw04_alive.f k) true := by
  refine ⟨64, fun k hk => ?_⟩
  obtain ⟨d, rfl⟩ : ∃ d, k = 64 + d := ⟨k - 64, by omega⟩
  clear hk
  induction d with
  | zero => exact alive_at
  | succ d ih => exact fluxionlaw04_alive.mono _ _ ih
attribute [local irreducible] bt
theorem ev_same1 (l : List S44) (hl : l.length ≤ 100000) : ∀ (d i : Nat), l.length - i = d → i ≤ l.length → Ev (fun k => fluxionlaw04_same.l0 k l l (i : Int)) true := by
  intro d
  induction d with
  | zero =>
    intro i h1 h2
    refine Ev.step (f := fun _ => some true) (fun k => ?_) (Ev.now _)
    simp only [fluxionlaw04_same.l0]
    rw [if_neg (by omega)]
  | succ d ih =>
    intro i h1 h2
    have h3 := ih (i + 1) (by omega) (by omega)
    refine Ev.step (fun k => ?_) h3
    simp only [fluxionlaw04_same.l0]
    rw [if_pos (by omega), if_pos (by omega), if_pos (by omega), beq_self_eq_true, beq_self_eq_true, beq_self_eq_true, if_neg (by decide), w64 (by omega) (by omega)]
    rfl
theorem ev_same (l : List S44) (hl : l.length ≤ 100000) : Ev (fun k => fluxionlaw04_same.f k l l) true := by
  obtain ⟨K, e⟩ := ev_same1 l hl l.length 0 rfl (Nat.zero_le _)
  refine ⟨K, fun k hk => ?_⟩
  show fluxionlaw04_same.f k l l = _
  unfold fluxionlaw04_same.f
  rw [if_pos rfl]
  exact e k hk
theorem short_f (a0 : ByteArray) : ∃ s : ByteArray, fluxionlaw04_short.f a0 = some s ∧ s.size ≤ 20002 := by
  have hm : mn (a0.size : Int) 20002 = ((min a0.size 20002 : Nat) : Int) := by unfold mn; split <;> omega
  refine ⟨a0.extract 0 (min a0.size 20002), ?_, ?_⟩
  · unfold fluxionlaw04_short.f
    rw [hm, if_pos (by omega), if_pos (by omega), Int.toNat_natCast]
  · rw [← len_eq, ext_upto, List.length_take]
    omega
/-- What a scan gives. -/
theorem scan_is (s : ByteArray) : ∃ (ts : List Tok.T) (p e : Int), Ev (fun k => token_Scan.f k s) (ts.map toS, p, e) ∧ Ev (fun k => fluxionref04_Scan.f k s) (ts.map toS, p, e) ∧ ts.length ≤ 20001 ∧ (∀ t ∈ ts, Tok.Good t ∧ t.t.length ≤ 20000) ∧ (e = 0 ∨ ts = []) := by
  by_cases hs : s.size ≤ 20000
  · have h1 := ev_Scan s hs
    have h2 := ev_rScan s hs
    have h3 := Tok.scan_good (s.data.toList.length + 1) s.data.toList 0
    rw [len_eq] at h3
    unfold Tok.scanG at h1 h2
    rw [len_eq] at h1 h2
    generalize Tok.scanF (s.size + 1) s.data.toList 0 = x at *
    obtain ⟨ts, p, e⟩ := x
    dsimp only at h3
    by_cases he : e = 0
    · subst he
      exact ⟨ts, p, 0, h1, h2, by omega, fun t ht => ⟨(h3.2 t ht).1, by have := (h3.2 t ht).2; omega⟩, .inl rfl⟩
    · have hr : res [] (ts, p, e) = (([] : List S44), p, e) := if_neg he
      rw [hr] at h1 h2
      exact ⟨[], p, e, h1, h2, Nat.zero_le _, (fun t ht => by cases ht), .inr rfl⟩
  · exact ⟨[], 0, 3, ⟨0, fun k _ => Scan_long s hs k⟩, ⟨0, fun k _ => rScan_long s hs k⟩, Nat.zero_le _, (fun t ht => by cases ht), .inr rfl⟩
end Go.Proofs.YteobbnehdlcphaaDoor.P
