import Derived.Test.YteobbnehdlcphaaDoorQJP20
import Derived.Test.YteobbnehdlcphaaDoorQJTJ
namespace Go.Proofs.YteobbnehdlcphaaDoor.P
open Go.RowKit Go.Proofs.YteobbnehdlcphaaDoorW.PrintWords Go.Proofs.YteobbnehdlcphaaDoorW.PrintLast Go.Proofs.YteobbnehdlcphaaDoorW.PrintMore
open Go.Proofs.YteobbnehdlcphaaDoor
attribute [local irreducible] bt
theorem j5_bad (e : Int) (he : e ≠ 0) (t : ByteArray) : Ev (fun k => fluxionlaw04_TokenJoins.j5 k (toB []) e e t) true := by
  obtain ⟨K, e1⟩ := ev_alive
  dsimp only at e1
  refine ⟨K + 1, fun k hk => ?_⟩
  obtain ⟨m, rfl⟩ : ∃ m, k = m + 1 := ⟨k - 1, by omega⟩
  simp only [fluxionlaw04_TokenJoins.j5]
  rw [if_neg he, toB_toList, if_pos rfl, if_pos trivial]
  exact bind_of (e1 m (by omega)) rfl
theorem l1_bad (one L : List S44) (e : Int) (he : e ≠ 0) (i : Int) : Ev (fun k => fluxionlaw04_TokenJoins.l1 k one L (toB []) e e i) true := by
  obtain ⟨K, e1⟩ := j5_bad e he (⟨#[]⟩ : ByteArray)
  dsimp only at e1
  have hj4 : ∀ m, K ≤ m → fluxionlaw04_TokenJoins.j4 (m + 1) one L (toB []) e e i false = some true := by
    intro m hm
    simp only [fluxionlaw04_TokenJoins.j4]
    rw [if_neg (by decide), if_neg he]
    exact e1 m hm
  refine ⟨K + 2, fun k hk => ?_⟩
  obtain ⟨m, rfl⟩ : ∃ m, k = m + 1 + 1 := ⟨k - 2, by omega⟩
  simp only [fluxionlaw04_TokenJoins.l1]
  rw [show (e == 0) = false from beq_eq_false_iff_ne.2 he]
  by_cases h : i < (one.length : Int)
  · rw [if_pos h]; exact hj4 m (by omega)
  · rw [if_neg h]; exact hj4 m (by omega)
theorem l1_ok (one L : List S44) (hone : one.length ≤ 500) (hs : ∀ x ∈ one, x.f1.size ≤ 300) (x8 : ByteArray) (x9 : Int)
    (hbad : one.any badS = true → x8 = toB [] ∧ x9 = 5)
    (hend : one.any badS = false → ∀ i : Int, Ev (fun k => fluxionlaw04_TokenJoins.j4 k one L x8 x9 0 i false) true) :
    ∀ (d i : Nat), one.length - i = d → i ≤ one.length → ((one.take i).any badS = false) → Ev (fun k => fluxionlaw04_TokenJoins.l1 k one L x8 x9 0 (i : Int)) true := by
  intro d
  induction d with
  | zero =>
    intro i h1 h2 h3
    rw [List.take_of_length_le (by omega)] at h3
    refine Ev.step (fun k => ?_) (hend h3 (i : Int))
    simp only [fluxionlaw04_TokenJoins.l1]
    rw [if_neg (by omega)]
  | succ d ih =>
    intro i h1 h2 h3
    have hi : i < one.length := by omega
    have hrd := rd_at one i hi
    have hlt := hs one[i] (List.getElem_mem hi)
    have htk : (one.take (i + 1)).any badS = badS one[i] := by
      rw [List.take_add_one, List.getElem?_eq_getElem hi, List.any_append, h3]
      simp
    have hmem : badS one[i] = true → one.any badS = true := fun h => List.any_eq_true.2 ⟨one[i], List.getElem_mem hi, h⟩
    have hih := ih (i + 1) (by omega) (by omega)
    rw [htk] at hih
    generalize one[i] = x at *
    obtain ⟨K1, e1⟩ := ev_rGood x (by omega)
    dsimp only at e1
    cases hb : badS x with
    | false =>
      have hf : Tok.formT (ofS x) = true := by unfold badS at hb; simpa using hb
      obtain ⟨K2, e2⟩ := hih hb
      dsimp only at e2
      refine ⟨K1 + K2 + 2, fun k hk => ?_⟩
      obtain ⟨m, rfl⟩ : ∃ m, k = m + 1 + 1 := ⟨k - 2, by omega⟩
      simp only [fluxionlaw04_TokenJoins.l1]
      rw [if_pos (by omega)]
      simp only [fluxionlaw04_TokenJoins.j4]
      rw [if_pos (by decide), if_pos (by omega), if_pos (by omega), hrd]
      refine bind_of (e1 m (by omega)) ?_
      rw [if_pos hf, w64 (by omega) (by omega)]
      exact e2 m (by omega)
    | true =>
      have hf : Tok.formT (ofS x) = false := by unfold badS at hb; simpa using hb
      obtain ⟨hx8, hx9⟩ := hbad (hmem hb)
      obtain ⟨K2, e2⟩ := l1_bad one L 5 (by decide) (wrap64 ((i : Int) + 1))
      dsimp only at e2
      refine ⟨K1 + K2 + 2, fun k hk => ?_⟩
      obtain ⟨m, rfl⟩ : ∃ m, k = m + 1 + 1 := ⟨k - 2, by omega⟩
      simp only [fluxionlaw04_TokenJoins.l1]
      rw [if_pos (by omega)]
      simp only [fluxionlaw04_TokenJoins.j4]
      rw [if_pos (by decide), if_pos (by omega), if_pos (by omega), hrd]
      refine bind_of (e1 m (by omega)) ?_
      rw [hf, if_neg (by decide), hx8, hx9]
      exact e2 m (by omega)
theorem any_same {one L : List S44} (h1 : ∀ x ∈ L, x ∈ one) (h2 : ∀ x ∈ one, x ∈ L) : L.any badS = one.any badS := by
  rw [Bool.eq_iff_iff, List.any_eq_true, List.any_eq_true]
  exact ⟨fun ⟨x, hx, hb⟩ => ⟨x, h1 x hx, hb⟩, fun ⟨x, hx, hb⟩ => ⟨x, h2 x hx, hb⟩⟩
theorem ev_j1 (one L : List S44) (hone : one.length ≤ 500) (hs : ∀ x ∈ one, x.f1.size ≤ 300) (hL : L.length ≤ 20500) (h1 : ∀ x ∈ L, x ∈ one) (h2 : ∀ x ∈ one, x ∈ L) :
    Ev (fun k => fluxionlaw04_TokenJoins.j1 k one L) true := by
  have hsL : ∀ x ∈ L, x.f1.size ≤ 300 := fun x hx => hs x (h1 x hx)
  obtain ⟨K1, e1⟩ := ev_Join L (by omega) hsL
  dsimp only at e1
  have hany := any_same h1 h2
  by_cases hbig : L.length > 20000
  · obtain ⟨K2, e2⟩ := l1_bad one L 3 (by decide) 0
    dsimp only at e2
    have hj : joinS L = (toB [], 3) := by unfold joinS; rw [if_pos hbig]
    rw [hj] at e1
    refine ⟨K1 + K2 + 2, fun k hk => ?_⟩
    obtain ⟨m, rfl⟩ : ∃ m, k = m + 1 + 1 := ⟨k - 2, by omega⟩
    simp only [fluxionlaw04_TokenJoins.j1]
    refine bind_of (e1 (m + 1) (by omega)) ?_
    rw [if_pos (by omega)]
    simp only [fluxionlaw04_TokenJoins.j2]
    exact e2 m (by omega)
  · have key : Ev (fun k => fluxionlaw04_TokenJoins.l1 k one L (joinS L).1 (joinS L).2 0 0) true := by
      refine l1_ok one L hone hs (joinS L).1 (joinS L).2 (fun hb => ?_) (fun hb i => ?_) one.length 0 rfl (Nat.zero_le _) rfl
      · rw [← hany] at hb
        unfold joinS
        rw [if_neg hbig, if_pos hb]
        exact ⟨rfl, rfl⟩
      · rw [← hany] at hb
        obtain ⟨K2, e2⟩ := ev_rJoinedZ L (by omega) (fun x hx => ⟨(Tok.form_good _ (good_of hb x hx)).1, hsL x hx⟩)
        dsimp only at e2
        by_cases h3 : (Tok.outT la0 (L.map ofS)).length > 20000
        · obtain ⟨K3, e3⟩ := j5_bad 3 (by decide) (toB (Tok.outT la0 (L.map ofS)))
          dsimp only at e3
          have hj : joinS L = (toB [], 3) := by unfold joinS; rw [if_neg hbig, hb, if_neg (by decide), if_pos h3]
          rw [hj]
          refine ⟨K2 + K3 + 1, fun k hk => ?_⟩
          obtain ⟨m, rfl⟩ : ∃ m, k = m + 1 := ⟨k - 1, by omega⟩
          simp only [fluxionlaw04_TokenJoins.j4]
          rw [if_neg (by decide), if_pos trivial]
          refine bind_of (e2 m (by omega)) ?_
          rw [toB_size, if_pos (by omega)]
          exact e3 m (by omega)
        · obtain ⟨K3, e3⟩ := ev_alive
          dsimp only at e3
          have hj : joinS L = (toB (Tok.outT la0 (L.map ofS)), 0) := by unfold joinS; rw [if_neg hbig, hb, if_neg (by decide), if_neg h3]
          rw [hj]
          refine ⟨K2 + K3 + 2, fun k hk => ?_⟩
          obtain ⟨m, rfl⟩ : ∃ m, k = m + 1 + 1 := ⟨k - 2, by omega⟩
          simp only [fluxionlaw04_TokenJoins.j4]
          rw [if_neg (by decide), if_pos trivial]
          refine bind_of (e2 (m + 1) (by omega)) ?_
          rw [toB_size, if_neg (by omega)]
          simp only [fluxionlaw04_TokenJoins.j5]
          rw [if_pos trivial, if_pos trivial, if_pos trivial]
          exact bind_of (e3 m (by omega)) rfl
    obtain ⟨K2, e2⟩ := key
    dsimp only at e2
    refine ⟨K1 + K2 + 2, fun k hk => ?_⟩
    obtain ⟨m, rfl⟩ : ∃ m, k = m + 1 + 1 := ⟨k - 2, by omega⟩
    simp only [fluxionlaw04_TokenJoins.j1]
    refine bind_of (e1 (m + 1) (by omega)) ?_
    rw [if_neg (by omega)]
    simp only [fluxionlaw04_TokenJoins.j2]
    exact e2 m (by omega)
theorem ev_rep (one : List S44) (hone : one.length ≤ 500) (hs : ∀ x ∈ one, x.f1.size ≤ 300) (a1 : Int) (n : Nat) (hn : n ≤ 59) (ha : wrap64 (Int.tmod a1 60) = (n : Int)) :
    ∀ (d i : Nat) (acc : List S44), n + 1 - i = d → i ≤ n + 1 → acc.length ≤ 20500 → (∀ x ∈ acc, x ∈ one) → (1 ≤ i → ∀ x ∈ one, x ∈ acc) → (i = 0 → acc = []) →
      Ev (fun k => fluxionlaw04_TokenJoins.l0 k a1 one acc (i : Int)) true := by
  intro d
  induction d with
  | zero =>
    intro i acc h1 h2 h3 h4 h5 h6
    refine Ev.step (fun k => ?_) (ev_j1 one acc hone hs h3 h4 (h5 (by omega)))
    simp only [fluxionlaw04_TokenJoins.l0]
    rw [ha, if_neg (by omega)]
  | succ d ih =>
    intro i acc h1 h2 h3 h4 h5 h6
    by_cases hb : acc.length ≤ 20000
    · have h7 := ih (i + 1) (acc ++ one) (by omega) (by omega) (by rw [List.length_append]; omega)
        (fun x hx => (List.mem_append.1 hx).elim (h4 x) id) (fun _ x hx => List.mem_append.2 (.inr hx)) (fun h => absurd h (by omega))
      refine Ev.step (fun k => ?_) h7
      simp only [fluxionlaw04_TokenJoins.l0]
      rw [ha, if_pos (by omega), if_pos (by omega), if_pos (by omega), w64 (by omega) (by omega)]
      rfl
    · have hi : 1 ≤ i := by
        rcases Nat.eq_zero_or_pos i with h | h
        · rw [h6 h] at hb; exact absurd (Nat.zero_le _) hb
        · exact h
      refine Ev.step (fun k => ?_) (ev_j1 one acc hone hs h3 h4 (h5 hi))
      simp only [fluxionlaw04_TokenJoins.l0]
      rw [ha, if_pos (by omega), if_neg (by omega)]
theorem tokenJoins_all (l : List S44) (a1 : Int) (w : (Lit.int .u8 a1).wf = true) : ∃ k, fluxionlaw04_TokenJoins.f k l a1 = some true := by
  obtain ⟨h0, h1⟩ : 0 ≤ a1 ∧ a1 ≤ 255 := by
    have hw := w
    have e0 : IntKind.u8.min = 0 := rfl
    have e1 : IntKind.u8.max = 255 := rfl
    simp [Lit.wf] at hw
    omega
  have ht : Int.tmod a1 60 = a1 % 60 := Int.tmod_eq_emod_of_nonneg h0
  have hm0 := Int.emod_nonneg a1 (show (60 : Int) ≠ 0 by decide)
  have hm1 := Int.emod_lt_of_pos a1 (show (0 : Int) < 60 by decide)
  have ha : wrap64 (Int.tmod a1 60) = (((a1 % 60).toNat : Nat) : Int) := by rw [ht, w64 (by omega) (by omega)]; omega
  obtain ⟨K1, e1⟩ := ev_cut l 500 (by decide)
  dsimp only at e1
  have hone : ((l.take 500).map cutS).length ≤ 500 := by rw [List.length_map, List.length_take]; omega
  have hs : ∀ x ∈ (l.take 500).map cutS, x.f1.size ≤ 300 := by
    intro x hx
    obtain ⟨y, _, rfl⟩ := List.mem_map.1 hx
    exact cutS_size y
  obtain ⟨K2, e2⟩ := ev_rep _ hone hs a1 (a1 % 60).toNat (by omega) ha _ 0 [] rfl (by omega) (Nat.zero_le _) (fun x h => by cases h) (fun h => absurd h (by decide)) (fun _ => rfl)
  dsimp only at e2
  refine ⟨K1 + K2, ?_⟩
  unfold fluxionlaw04_TokenJoins.f
  exact bind_of (e1 _ (by omega)) (e2 _ (by omega))
end Go.Proofs.YteobbnehdlcphaaDoor.P

