import Derived.Test.YteobbnehdlcphaaDoorQDP0
import Derived.Test.YteobbnehdlcphaaDoorQDP6
import Derived.Test.YteobbnehdlcphaaDoorQDP2
import Derived.Test.YteobbnehdlcphaaDoorQDP3
import Derived.Test.YteobbnehdlcphaaDoorQDP1
import Derived.Test.YteobbnehdlcphaaDoorQDP11
import Derived.Test.YteobbnehdlcphaaDoorQDG
import Derived.Test.YteobbnehdlcphaaDoorQDTC
import Derived.Test.YteobbnehdlcphaaDoorQDHJoin
namespace Go.Proofs.YteobbnehdlcphaaDoor.P
open Go.RowKit Go.Proofs.YteobbnehdlcphaaDoorW.PrintWords Go.Proofs.YteobbnehdlcphaaDoorW.PrintLast Go.Proofs.YteobbnehdlcphaaDoorW.PrintMore
open Go.Proofs.YteobbnehdlcphaaDoor
attribute [local irreducible] bt
theorem toB_app (a b : Tok.Bs) : toB a ++ toB b = toB (a ++ b) := toB_inj (by
  rw [toB_list]
  show ((toB a).append (toB b)).data.toList = _
  simp [toB])
theorem toB_toList (a : Tok.Bs) : (toB a).toList = a := by rw [toList_eq, toB_list]
theorem sm_of {n : Nat} (l : Tok.Bs) (h : l.length ≤ n) (hn : n ≤ 100000) : Sm (toB l) := by
  show (toB l).size ≤ _
  rw [toB_size]; omega
theorem whole_good (b : Tok.T) (hb : Tok.Good b) (h5 : b.k ≠ 5) (hl : b.t.length ≤ 100000) : Ev (fun k => token_whole.f k (toB b.t) b.k) true := by
  rcases hb with h | ⟨_, hne, hg⟩
  · exact absurd h.1 h5
  · obtain ⟨K, e⟩ := ev_next (toB b.t) (sm_of _ hl (Nat.le_refl _)) (by rw [toB_list]; exact hne)
    dsimp only at e
    rw [toB_list, hg] at e
    refine ⟨K, fun k hk => ?_⟩
    show token_whole.f k (toB b.t) b.k = _
    unfold token_whole.f
    rw [toB_toList, if_neg hne]
    refine bind_of (e k hk) ?_
    dsimp only
    rw [if_pos rfl, toB_toList]
    exact congrArg some (beq_self_eq_true _)
theorem ev_apart (a b : Tok.T) (x y : Int) (ha : Tok.Good a) (hb : Tok.Good b) (h5 : b.k ≠ 5) (hla : a.t.length ≤ 20000) (hlb : b.t.length ≤ 20000) :
    Ev (fun k => token_apart.f k a.k (toB a.t) x b.k (toB b.t) y) (Tok.apartT a b) := by
  unfold Tok.apartT
  by_cases ha5 : a.k = 5
  · have hat : a.t = [] := by
      rcases ha with h | h
      · exact h.2
      · exact absurd ha5 h.1
    rw [decide_eq_false (by simp [ha5]), Bool.false_and]
    refine Ev.step (f := fun _ => some false) (fun k => ?_) (Ev.now _)
    show token_apart.f (k + 1) _ _ _ _ _ _ = _
    unfold token_apart.f
    rw [toB_toList, if_pos hat]
    simp only [token_apart.j0]
    rw [if_pos trivial]
  · rw [decide_eq_true ha5, Bool.true_and]
    have hane : a.t ≠ [] := by
      rcases ha with h | h
      · exact absurd h.1 ha5
      · exact h.2.1
    have hbne : b.t ≠ [] := by
      rcases hb with h | h
      · exact absurd h.1 h5
      · exact h.2.1
    have hks := Tok.kind_same (b := b.t) ha5 ha
    have habl : (a.t ++ b.t).length ≤ 40000 := by rw [List.length_append]; omega
    obtain ⟨K1, e1⟩ := ev_next (toB (a.t ++ b.t)) (sm_of _ habl (by decide)) (by rw [toB_list]; simp [hane])
    dsimp only at e1
    rw [toB_list] at e1
    obtain ⟨K2, e2⟩ := whole_good b hb h5 (by omega)
    dsimp only at e2
    have hcut : (toB (a.t ++ b.t)).extract a.t.length (toB (a.t ++ b.t)).size = toB b.t := by
      rw [toB_from, toB_list, List.drop_left]
    generalize Tok.next (a.t ++ b.t) = nx at *
    obtain ⟨nk, nt⟩ := nx
    dsimp only at e1 hks ⊢
    refine ⟨K1 + K2 + 1, fun k hk => ?_⟩
    obtain ⟨m, rfl⟩ : ∃ m, k = m + 1 := ⟨k - 1, by omega⟩
    show token_apart.f (m + 1) _ _ _ _ _ _ = _
    unfold token_apart.f
    rw [toB_toList, if_neg hane, toB_toList, show (b.t == ([] : List UInt8)) = false from beq_eq_false_iff_ne.2 hbne]
    simp only [token_apart.j0]
    rw [if_neg (by decide), toB_app, toB_size, toB_size, if_pos (by omega)]
    refine bind_of (e1 m (by omega)) ?_
    dsimp only
    by_cases hlen : nt.length = a.t.length
    · have h := hks hlen
      injection h with h1 h2
      rw [if_pos h1, toB_toList, if_pos (show nt = (toB a.t).toList by rw [toB_toList, h2]), if_pos (by omega), toB_size, if_pos (by rw [List.length_append]; omega), Int.toNat_natCast, ← toB_size (a.t ++ b.t), hcut]
      refine bind_of (e2 m (by omega)) ?_
      rw [decide_eq_false (by simp [hlen])]
      rfl
    · rw [decide_eq_true hlen]
      by_cases h1 : nk = a.k
      · rw [if_pos h1, toB_toList, toB_toList, if_neg (fun h => hlen (by rw [h]))]
      · rw [if_neg h1]
theorem rd_toS (ts : List Tok.T) (i : Nat) (h : i < ts.length) : rd_T44 (ts.map toS) (i : Int) = toS ts[i] := by
  unfold rd_T44
  rw [Int.toNat_natCast, List.getD_eq_getElem?_getD, List.getElem?_map, List.getElem?_eq_getElem h]
  rfl
theorem ev_join (ts : List Tok.T) (hn : ts.length ≤ 20001) (hg : ∀ t ∈ ts, Tok.Good t ∧ t.t.length ≤ 20000) : ∀ (d i : Nat) (o : Tok.Bs) (la : Tok.T), ts.length - i = d → i ≤ ts.length → o.length ≤ i * 20001 → Tok.Good la → la.t.length ≤ 20000 →
    Ev (fun k => token_join.l0 k (ts.map toS) o (toS la) (i : Int)) (toB (o ++ Tok.outT la (ts.drop i))) := by
  intro d
  induction d with
  | zero =>
    intro i o la h1 h2 h3 h4 h5
    rw [List.drop_of_length_le (by omega)]
    refine Ev.step (f := fun _ => some (toB o)) (fun k => ?_) (by show Ev _ (toB (o ++ [])); rw [List.append_nil]; exact Ev.now _)
    simp only [token_join.l0]
    rw [List.length_map, if_neg (by omega)]
    rfl
  | succ d ih =>
    intro i o la h1 h2 h3 h4 h5
    have hi : i < ts.length := by omega
    rw [List.drop_eq_getElem_cons hi]
    have hrd := rd_toS ts i hi
    obtain ⟨hgt, hlt⟩ := hg ts[i] (List.getElem_mem hi)
    generalize ts[i] = t at *
    have w1 : Aside0 (wrap64 ((i : Int) + 1) = ((i + 1 : Nat) : Int)) := ⟨by rw [w64 (by omega) (by omega)]; rfl⟩
    unfold Tok.outT
    by_cases ht5 : t.k = 5
    · rw [if_pos ht5]
      have h6 := ih (i + 1) o la (by omega) (by omega) (Nat.le_trans h3 (Nat.mul_le_mul_right _ (Nat.le_succ i))) h4 h5
      refine Ev.step (fun k => ?_) h6
      simp only [token_join.l0]
      rw [List.length_map, if_pos (by omega), if_pos (by omega), hrd, w1.out]
      exact if_pos ht5
    · rw [if_neg ht5]
      obtain ⟨K1, e1⟩ := ev_apart la t (la.a : Int) (t.a : Int) h4 hgt ht5 h5 hlt
      dsimp only at e1
      cases hap : Tok.apartT la t with
      | true =>
        rw [hap] at e1
        obtain ⟨K2, e2⟩ := ih (i + 1) (o ++ [32] ++ t.t) t (by omega) (by omega) (by simp only [List.length_append, List.length_cons, List.length_nil]; omega) hgt hlt
        dsimp only at e2
        rw [if_pos rfl]
        refine ⟨K1 + K2 + 1, fun k hk => ?_⟩
        obtain ⟨m, rfl⟩ : ∃ m, k = m + 1 := ⟨k - 1, by omega⟩
        simp only [token_join.l0]
        rw [List.length_map, if_pos (by omega), if_pos (by omega), hrd, w1.out, if_neg (show ¬ (toS t).f0 = 5 from ht5)]
        refine bind_of (e1 m (by omega)) ?_
        show (if o.length + 1 + (toB t.t).size ≤ 140737488355328 then token_join.l0 m (ts.map toS) (o ++ [32] ++ t.t) (toS t) ((i + 1 : Nat) : Int) else none) = _
        rw [toB_size, if_pos (by omega), e2 m (by omega)]
        simp only [List.append_assoc]
      | false =>
        rw [hap] at e1
        obtain ⟨K2, e2⟩ := ih (i + 1) (o ++ t.t) t (by omega) (by omega) (by simp only [List.length_append]; omega) hgt hlt
        dsimp only at e2
        rw [if_neg (by decide)]
        refine ⟨K1 + K2 + 1, fun k hk => ?_⟩
        obtain ⟨m, rfl⟩ : ∃ m, k = m + 1 := ⟨k - 1, by omega⟩
        simp only [token_join.l0]
        rw [List.length_map, if_pos (by omega), if_pos (by omega), hrd, w1.out, if_neg (show ¬ (toS t).f0 = 5 from ht5)]
        refine bind_of (e1 m (by omega)) ?_
        show (if o.length + (toB t.t).size ≤ 140737488355328 then token_join.l0 m (ts.map toS) (o ++ t.t) (toS t) ((i + 1 : Nat) : Int) else none) = _
        rw [toB_size, if_pos (by omega), e2 m (by omega)]
        simp only [List.append_assoc]
def la0 : Tok.T := ⟨5, [], 0⟩
theorem la0_good : Tok.Good la0 := .inl ⟨rfl, rfl⟩
theorem ev_joined (ts : List Tok.T) (hn : ts.length ≤ 20001) (hg : ∀ t ∈ ts, Tok.Good t ∧ t.t.length ≤ 20000) : Ev (fun k => token_join.f k (ts.map toS)) (toB (Tok.outT la0 ts)) := by
  have := ev_join ts hn hg ts.length 0 [] la0 rfl (Nat.zero_le _) (Nat.zero_le _) la0_good (Nat.zero_le _)
  rw [List.drop_zero, List.nil_append] at this
  exact this
end Go.Proofs.YteobbnehdlcphaaDoor.P

