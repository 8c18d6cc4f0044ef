import Derived.Test.YteobbnehdlcphaaDoorQAP18
import Derived.Test.YteobbnehdlcphaaDoorQATG
namespace Go.Proofs.YteobbnehdlcphaaDoor.P
open Go.RowKit Go.Proofs.YteobbnehdlcphaaDoorW.PrintWords Go.Proofs.YteobbnehdlcphaaDoorW.PrintLast Go.Proofs.YteobbnehdlcphaaDoorW.PrintMore
open Go.Proofs.YteobbnehdlcphaaDoor
attribute [local irreducible] bt
theorem ev_Apart (x y : S44) (hx : x.f1.size ≤ 20000) (hy : y.f1.size ≤ 20000) :
    Ev (fun k => token_Apart.f k x.f0 x.f1 x.f2 y.f0 y.f1 y.f2) (if Tok.formT (ofS x) = true ∧ Tok.formT (ofS y) = true then (apartB (ofS x) (ofS y), 0) else (false, 5)) := by
  obtain ⟨K1, e1⟩ := ev_form x hx
  obtain ⟨K2, e2⟩ := ev_form y hy
  dsimp only at e1 e2
  by_cases h1 : Tok.formT (ofS x) = true
  · by_cases h2 : Tok.formT (ofS y) = true
    · rw [if_pos ⟨h1, h2⟩]
      obtain ⟨K3, e3⟩ := ev_apartB x y (Tok.form_good _ h1).1 (Tok.form_good _ h2).1 hx hy
      dsimp only at e3
      refine ⟨K1 + K2 + K3, fun k hk => ?_⟩
      show token_Apart.f k x.f0 x.f1 x.f2 y.f0 y.f1 y.f2 = _
      unfold token_Apart.f
      refine bind_of (e1 k (by omega)) ?_
      rw [if_pos h1]
      refine bind_of (e2 k (by omega)) ?_
      rw [if_pos h2]
      exact bind_of (e3 k (by omega)) rfl
    · rw [if_neg (fun h => h2 h.2)]
      refine ⟨K1 + K2, fun k hk => ?_⟩
      show token_Apart.f k x.f0 x.f1 x.f2 y.f0 y.f1 y.f2 = _
      unfold token_Apart.f
      refine bind_of (e1 k (by omega)) ?_
      rw [if_pos h1]
      refine bind_of (e2 k (by omega)) ?_
      rw [if_neg h2]
  · rw [if_neg (fun h => h1 h.1)]
    refine ⟨K1, fun k hk => ?_⟩
    show token_Apart.f k x.f0 x.f1 x.f2 y.f0 y.f1 y.f2 = _
    unfold token_Apart.f
    refine bind_of (e1 k (by omega)) ?_
    rw [if_neg h1]
theorem tokenApart_all (x y : S44) : ∃ k, fluxionlaw04_TokenApart.f k x.f0 x.f1 x.f2 y.f0 y.f1 y.f2 = some true := by
  have hx := cutS_size x
  have hy := cutS_size y
  obtain ⟨K1, e1⟩ := ev_cut [x, y] 2 (by decide)
  obtain ⟨K2, e2⟩ := ev_Apart (cutS x) (cutS y) (by omega) (by omega)
  obtain ⟨K3, e3⟩ := ev_rGood (cutS x) (by omega)
  obtain ⟨K4, e4⟩ := ev_rGood (cutS y) (by omega)
  obtain ⟨K5, e5⟩ := ev_alive
  dsimp only at e1 e2 e3 e4 e5
  have hl : (List.take 2 [x, y]).map cutS = [cutS x, cutS y] := rfl
  rw [hl] at e1
  generalize cutS x = u at *
  generalize cutS y = v at *
  have r0 : rd_T44 [u, v] 0 = u := rfl
  have r1 : rd_T44 [u, v] 1 = v := rfl
  have hlen : (([u, v] : List S44).length : Int) = 2 := rfl
  have key : ∀ K6, (∀ k, K6 ≤ k → Tok.formT (ofS u) = true → Tok.formT (ofS v) = true → fluxionref04_Apart.f k u.f0 u.f1 u.f2 v.f0 v.f1 v.f2 = some (apartB (ofS u) (ofS v))) → ∃ k, fluxionlaw04_TokenApart.f k x.f0 x.f1 x.f2 y.f0 y.f1 y.f2 = some true := by
    intro K6 e6
    refine ⟨K1 + K2 + K3 + K4 + K5 + K6 + 1, ?_⟩
    generalize hK : K1 + K2 + K3 + K4 + K5 + K6 = K
    have hbad : fluxionlaw04_TokenApart.j0 (K + 1) [u, v] false 5 true = some true := by
      simp only [fluxionlaw04_TokenApart.j0]
      rw [if_pos trivial, if_neg (by decide), if_pos trivial]
      exact bind_of (e5 K (by omega)) rfl
    unfold fluxionlaw04_TokenApart.f
    refine bind_of (e1 (K + 1) (by omega)) ?_
    rw [hlen, if_pos (by decide), if_pos (by decide), r0, r1]
    refine bind_of (e2 (K + 1) (by omega)) ?_
    refine bind_of (e3 (K + 1) (by omega)) ?_
    by_cases h1 : Tok.formT (ofS u) = true
    · rw [if_pos h1]
      refine bind_of (e4 (K + 1) (by omega)) ?_
      by_cases h2 : Tok.formT (ofS v) = true
      · rw [if_pos ⟨h1, h2⟩, h2]
        simp only [fluxionlaw04_TokenApart.j0]
        rw [if_neg (by decide), hlen, if_pos (by decide), if_pos (by decide), r0, r1]
        refine bind_of (e6 K (by omega) h1 h2) ?_
        rw [if_pos (beq_self_eq_true _), if_pos trivial]
        exact bind_of (e5 K (by omega)) rfl
      · rw [if_neg (fun h => h2 h.2), Bool.eq_false_iff.2 h2]
        exact hbad
    · rw [if_neg h1, if_neg (fun h => h1 h.1)]
      exact hbad
  by_cases h1 : Tok.formT (ofS u) = true
  · obtain ⟨K6, e6⟩ := ev_rApartB u v (Tok.form_good _ h1).1 (by omega) (by omega)
    exact key K6 (fun k hk _ _ => e6 k hk)
  · exact key 0 (fun k _ h => absurd h h1)
end Go.Proofs.YteobbnehdlcphaaDoor.P

