import Derived.Test.YteobbnehdlcphaaDoorQAP0
import Derived.Test.YteobbnehdlcphaaDoorQAP6
import Derived.Test.YteobbnehdlcphaaDoorQAP7
import Derived.Test.YteobbnehdlcphaaDoorQAP2
import Derived.Test.YteobbnehdlcphaaDoorQAP3
import Derived.Test.YteobbnehdlcphaaDoorQAP1
import Derived.Test.YteobbnehdlcphaaDoorQAP11
import Derived.Test.YteobbnehdlcphaaDoorQAG
import Derived.Test.YteobbnehdlcphaaDoorQATC
import Derived.Test.YteobbnehdlcphaaDoorQAHJoin
namespace Go.Proofs.YteobbnehdlcphaaDoor.P
open Go.RowKit Go.Proofs.YteobbnehdlcphaaDoorW.PrintWords Go.Proofs.YteobbnehdlcphaaDoorW.PrintLast Go.Proofs.YteobbnehdlcphaaDoorW.PrintMore
open Go.Proofs.YteobbnehdlcphaaDoor
attribute [local irreducible] bt
theorem toB_app (a b : Tok.Bs) : toB a ++ toB b = toB (a ++ b) := toB_inj (by
  rw [toB_list]
  show ((toB a).append (toB b)).data.toList = _
  simp [toB])
theorem toB_toList (a : Tok.Bs) : (toB a).toList = a := by rw [toList_eq, toB_list]
theorem sm_of {n : Nat} (l : Tok.Bs) (h : l.length ≤ n) (hn : n ≤ 100000) : Sm (toB l) := by
  show (toB l).size ≤ _
  rw [toB_size]; omega
theorem whole_good (b : Tok.T) (hb : Tok.Good b) (h5 : b.k ≠ 5) (hl : b.t.length ≤ 100000) : Ev (fun k => token_whole.f k (toB b.t) b.k) true := by
  rcases hb with h | ⟨_, hne, hg⟩
  · exact absurd h.1 h5
  · obtain ⟨K, e⟩ := ev_next (toB b.t) (sm_of _ hl (Nat.le_refl _)) (by rw [toB_list]; exact hne)
    dsimp only at e
    rw [toB_list, hg] at e
    refine ⟨K, fun k hk => ?_⟩
    show token_whole.f k (toB b.t) b.k = _
    unfold token_whole.f
    rw [toB_toList, if_neg hne]
    refine bind_of (e k hk) ?_
    dsimp only
    rw [if_pos rfl, toB_toList]
    exact congrArg some (beq_self_eq_true _)
theorem ev_apart (a b : Tok.T) (x y : Int) (ha : Tok.Good a) (hb : Tok.Good b) (h5 : b.k ≠ 5) (hla : a.t.length ≤ 20000) (hlb : b.t.length ≤ 20000) :
    Ev (fun k => token_apart.f k a.k (toB a.t) x b.k (toB b.t) y) (Tok.apartT a b) := by
  unfold Tok.apartT
  by_cases ha5 : a.k = 5
  · have hat : a.t = [] := by
      rcases ha with h | h
      · exact h.2
      · exact absurd ha5 h.1
    rw [decide_eq_false (by simp [ha5]), Bool.false_and]
    refine Ev.step (f := fun _ => some false) (fun k => ?_) (Ev.now _)
    show token_apart.f (k + 1) _ _ _ _ _ _ = _
    unfold token_apart.f
    rw [toB_toList, if_pos hat]
    simp only [token_apart.j0]
    rw [if_pos trivial]
  · rw [decide_eq_true ha5, Bool.true_and]
    have hane : a.t ≠ [] := by
      rcases ha with h | h
      · exact absurd h.1 ha5
      · exact h.2.1
    have hbne : b.t ≠ [] := by
      rcases hb with h | h
      · exact absurd h.1 h5
      · exact h.2.1
    have hks := Tok.kind_same (b := b.t) ha5 ha
    have habl : (a.t ++ b.t).length ≤ 40000 := by rw [List.length_append]; omega
    obtain ⟨K1, e1⟩ := ev_next (toB (a.t ++ b.t)) (sm_of _ habl (by decide)) (by rw [toB_list]; simp [hane])
    dsimp only at e1
    rw [toB_list] at e1
    obtain ⟨K2, e2⟩ := whole_good b hb h5 (by omega)
    dsimp only at e2
    have hcut : (toB (a.t ++ b.t)).extract a.t.length (toB (a.t ++ b.t)).size = toB b.t := by
      rw [toB_from, toB_list, List.drop_left]
    generalize Tok.next (a.t ++ b.t) = nx at *
    obtain ⟨nk, nt⟩ := nx
    dsimp only at e1 hks ⊢
    refine ⟨K1 + K2 + 1, fun k hk => ?_⟩
    obtain ⟨m, rfl⟩ : ∃ m, k = m + 1 := ⟨k - 1, by omega⟩
    show token_apart.f (m + 1) _ _ _ _ _ _ = _
    unfold token_apart.f
    rw [toB_toList, if_neg hane, toB_toList, show (b.t == ([] : List UInt8)) = false from beq_eq_false_iff_ne.2 hbne]
    simp only [token_apart.j0]
    rw [if_neg (by decide), toB_app, toB_size, toB_size, if_pos (by omega)]
    refine bind_of (e1 m (by omega)) ?_
    dsimp only
    by_cases hlen : nt.length = a.t.length
    · have h := hks hlen
      injection h with h1 h2
      rw [if_pos h1, toB_toList, if_pos (show nt = (toB a.t).toList by rw [toB_toList, h2]), if_pos (by omega), toB_size, if_pos (by rw [List.length_append]; omega), Int.toNat_natCast, ← toB_size (a.t ++ b.t), hcut]
      refine bind_of (e2 m (by omega)) ?_
      rw [decide_eq_false (by simp [hlen])]
      rfl
    · rw [decide_eq_true hlen]
      by_cases h1 : nk = a.k
      · rw [if_pos h1, toB_toList, toB_toList, if_neg (fun h => hlen (by rw [h]))]
      · rw [if_neg h1]
theorem mx_nat (a b : Nat) : mx (a : Int) (b : Int) = ((max a b : Nat) : Int) := by
  unfold mx
  split <;> omega
theorem ev_rApart (a b : Tok.T) (x y : Int) (ha : Tok.Good a) (h5 : b.k ≠ 5) (hla : a.t.length ≤ 20000) (hlb : b.t.length ≤ 20000) :
    Ev (fun k => fluxionref04_Apart.f k a.k (toB a.t) x b.k (toB b.t) y) (Tok.apartT a b) := by
  unfold Tok.apartT
  by_cases ha5 : a.k = 5
  · rw [decide_eq_false (by simp [ha5]), Bool.false_and]
    refine Ev.step (f := fun _ => some false) (fun k => ?_) (Ev.now _)
    show fluxionref04_Apart.f (k + 1) _ _ _ _ _ _ = _
    unfold fluxionref04_Apart.f
    rw [if_pos ha5]
    simp only [fluxionref04_Apart.j0]
    rw [if_pos trivial]
  · rw [decide_eq_true ha5, Bool.true_and]
    have hane : a.t ≠ [] := by
      rcases ha with h | h
      · exact absurd h.1 ha5
      · exact h.2.1
    have habl : (a.t ++ b.t).length ≤ 40000 := by rw [List.length_append]; omega
    have hsm := sm_of (a.t ++ b.t) habl (by decide)
    obtain ⟨K1, e1⟩ := ev_rname (toB (a.t ++ b.t)) hsm 0 (Nat.zero_le _)
    obtain ⟨K2, e2⟩ := ev_rnumber (toB (a.t ++ b.t)) hsm 0 (Nat.zero_le _)
    obtain ⟨K3, e3⟩ := ev_rsign (toB (a.t ++ b.t)) hsm 0 (Nat.zero_le _)
    dsimp only at e1 e2 e3
    rw [toB_list, List.drop_zero] at e1 e2 e3
    have hlong : max (max (Tok.nameN (a.t ++ b.t)) (Tok.numN (a.t ++ b.t))) (Tok.signN (a.t ++ b.t)) = (Tok.next (a.t ++ b.t)).2.length := by
      cases h : a.t with
      | nil => exact absurd h hane
      | cons c r => exact Tok.longest c (r ++ b.t)
    refine ⟨K1 + K2 + K3 + 1, fun k hk => ?_⟩
    obtain ⟨m, rfl⟩ : ∃ m, k = m + 1 := ⟨k - 1, by omega⟩
    show fluxionref04_Apart.f (m + 1) _ _ _ _ _ _ = _
    unfold fluxionref04_Apart.f
    rw [if_neg ha5, show (b.k == 5) = false from beq_eq_false_iff_ne.2 h5]
    simp only [fluxionref04_Apart.j0]
    rw [if_neg (by decide), toB_app, toB_size, toB_size, if_pos (by omega)]
    refine bind_of (e1 m (by omega)) ?_
    refine bind_of (e2 m (by omega)) ?_
    refine bind_of (e3 m (by omega)) ?_
    rw [mx_nat, mx_nat, hlong]
    congr 1
    rw [Bool.eq_iff_iff, bne_iff_ne, decide_eq_true_eq]
    omega
end Go.Proofs.YteobbnehdlcphaaDoor.P

