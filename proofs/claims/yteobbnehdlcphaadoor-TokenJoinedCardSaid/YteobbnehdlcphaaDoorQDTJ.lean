import Derived.Test.YteobbnehdlcphaaDoorQDP0
import Derived.Test.YteobbnehdlcphaaDoorQDP2
import Derived.Test.YteobbnehdlcphaaDoorQDP3
import Derived.Test.YteobbnehdlcphaaDoorQDP6
import Derived.Test.YteobbnehdlcphaaDoorQDP1
import Derived.Test.YteobbnehdlcphaaDoorQDP11
import Derived.Test.YteobbnehdlcphaaDoorQDG
import Derived.Test.YteobbnehdlcphaaDoorQDP19
import Derived.Test.YteobbnehdlcphaaDoorQDTG
namespace Go.Proofs.YteobbnehdlcphaaDoor.P
open Go.RowKit Go.Proofs.YteobbnehdlcphaaDoorW.PrintWords Go.Proofs.YteobbnehdlcphaaDoorW.PrintLast Go.Proofs.YteobbnehdlcphaaDoorW.PrintMore
open Go.Proofs.YteobbnehdlcphaaDoor
attribute [local irreducible] bt
theorem good_len (x : S44) (h : x.f1.size ≤ 300) : (ofS x).t.length ≤ 20000 := by rw [ofS_len]; omega
theorem ev_joinZ (xs : List S44) (hn : xs.length ≤ 20001) (hg : ∀ x ∈ xs, Tok.Good (ofS x) ∧ x.f1.size ≤ 300) : ∀ (d i : Nat) (o : Tok.Bs) (la : S44), xs.length - i = d → i ≤ xs.length → o.length ≤ i * 20001 → Tok.Good (ofS la) → la.f1.size ≤ 300 →
    Ev (fun k => token_join.l0 k xs o la (i : Int)) (toB (o ++ Tok.outT (ofS la) ((xs.map ofS).drop i))) := by
  intro d
  induction d with
  | zero =>
    intro i o la h1 h2 h3 h4 h5
    rw [List.drop_of_length_le (by rw [List.length_map]; omega)]
    refine Ev.step (f := fun _ => some (toB o)) (fun k => ?_) (by show Ev _ (toB (o ++ [])); rw [List.append_nil]; exact Ev.now _)
    simp only [token_join.l0]
    rw [if_neg (by omega)]
    rfl
  | succ d ih =>
    intro i o la h1 h2 h3 h4 h5
    have hi : i < xs.length := by omega
    have hi2 : i < (xs.map ofS).length := by rw [List.length_map]; exact hi
    rw [List.drop_eq_getElem_cons hi2, List.getElem_map]
    have hrd := rd_at xs i hi
    obtain ⟨hgt, hlt⟩ := hg xs[i] (List.getElem_mem hi)
    generalize xs[i] = x at *
    have w1 : Aside0 (wrap64 ((i : Int) + 1) = ((i + 1 : Nat) : Int)) := ⟨by rw [w64 (by omega) (by omega)]; rfl⟩
    have hxl : (ofS x).t.length = x.f1.size := ofS_len x
    unfold Tok.outT
    by_cases ht5 : (ofS x).k = 5
    · rw [if_pos ht5]
      have h6 := ih (i + 1) o la (by omega) (by omega) (Nat.le_trans h3 (Nat.mul_le_mul_right _ (Nat.le_succ i))) h4 h5
      refine Ev.step (fun k => ?_) h6
      simp only [token_join.l0]
      rw [if_pos (by omega), if_pos (by omega), hrd, w1.out]
      exact if_pos ht5
    · rw [if_neg ht5]
      obtain ⟨K1, e1⟩ := ev_apart (ofS la) (ofS x) la.f2 x.f2 h4 hgt ht5 (good_len la h5) (good_len x hlt)
      dsimp only at e1
      have hf1 : x.f1.data.toList = (ofS x).t := rfl
      cases hap : Tok.apartT (ofS la) (ofS x) with
      | true =>
        rw [hap] at e1
        obtain ⟨K2, e2⟩ := ih (i + 1) (o ++ [32] ++ (ofS x).t) x (by omega) (by omega) (by simp only [List.length_append, List.length_cons, List.length_nil]; omega) hgt hlt
        dsimp only at e2
        rw [if_pos rfl]
        refine ⟨K1 + K2 + 1, fun k hk => ?_⟩
        obtain ⟨m, rfl⟩ : ∃ m, k = m + 1 := ⟨k - 1, by omega⟩
        simp only [token_join.l0]
        rw [if_pos (by omega), if_pos (by omega), hrd, w1.out, if_neg (show ¬ x.f0 = 5 from ht5)]
        refine bind_of (e1 m (by omega)) ?_
        show (if o.length + 1 + x.f1.size ≤ 140737488355328 then token_join.l0 m xs (o ++ [32] ++ (ofS x).t) x ((i + 1 : Nat) : Int) else none) = _
        rw [if_pos (by omega), e2 m (by omega)]
        simp only [List.append_assoc]
      | false =>
        rw [hap] at e1
        obtain ⟨K2, e2⟩ := ih (i + 1) (o ++ (ofS x).t) x (by omega) (by omega) (by simp only [List.length_append]; omega) hgt hlt
        dsimp only at e2
        rw [if_neg (by decide)]
        refine ⟨K1 + K2 + 1, fun k hk => ?_⟩
        obtain ⟨m, rfl⟩ : ∃ m, k = m + 1 := ⟨k - 1, by omega⟩
        simp only [token_join.l0]
        rw [if_pos (by omega), if_pos (by omega), hrd, w1.out, if_neg (show ¬ x.f0 = 5 from ht5)]
        refine bind_of (e1 m (by omega)) ?_
        show (if o.length + x.f1.size ≤ 140737488355328 then token_join.l0 m xs (o ++ (ofS x).t) x ((i + 1 : Nat) : Int) else none) = _
        rw [if_pos (by omega), e2 m (by omega)]
        simp only [List.append_assoc]
def endS : S44 := ⟨5, ⟨#[]⟩, 0⟩
theorem ofS_end : ofS endS = la0 := rfl
theorem ev_joinedZ (xs : List S44) (hn : xs.length ≤ 20001) (hg : ∀ x ∈ xs, Tok.Good (ofS x) ∧ x.f1.size ≤ 300) : Ev (fun k => token_join.f k xs) (toB (Tok.outT la0 (xs.map ofS))) := by
  have := ev_joinZ xs hn hg xs.length 0 [] endS rfl (Nat.zero_le _) (Nat.zero_le _) (by rw [ofS_end]; exact la0_good) (Nat.zero_le _)
  rw [List.drop_zero, List.nil_append, ofS_end] at this
  exact this
def badS (x : S44) : Bool := !Tok.formT (ofS x)
theorem ev_badAt (l : List S44) (hl : l.length ≤ 100000) (hs : ∀ x ∈ l, x.f1.size ≤ 300) : ∀ (d i : Nat), l.length - i = d → i ≤ l.length →
    ∃ r : Int, Ev (fun k => slices_IndexFunc_api_Token_api_Token_at_token_Join_1.l0 k l (l.length : Int) (i : Int)) r ∧ decide (r ≥ 0) = (l.drop i).any badS := by
  intro d
  induction d with
  | zero =>
    intro i h1 h2
    rw [List.drop_of_length_le (by omega)]
    refine ⟨-1, Ev.step (f := fun _ => some (-1)) (fun k => ?_) (Ev.now _), rfl⟩
    simp only [slices_IndexFunc_api_Token_api_Token_at_token_Join_1.l0]
    rw [if_neg (by omega)]
  | succ d ih =>
    intro i h1 h2
    have hi : i < l.length := by omega
    rw [List.drop_eq_getElem_cons hi, List.any_cons]
    have hrd := rd_at l i hi
    have hlt := hs l[i] (List.getElem_mem hi)
    generalize l[i] = x at *
    obtain ⟨K1, e1⟩ := ev_form x (by omega)
    obtain ⟨r, ⟨K2, e2⟩, h3⟩ := ih (i + 1) (by omega) (by omega)
    dsimp only at e1 e2
    have hj : ∀ m, K1 ≤ m → token_Join_1.f m x.f0 x.f1 x.f2 = some (badS x) := fun m hm => bind_of (e1 m hm) rfl
    cases hb : badS x with
    | true =>
      refine ⟨(i : Int), ⟨K1 + 1, fun k hk => ?_⟩, by rw [Bool.true_or]; exact decide_eq_true (by omega)⟩
      obtain ⟨m, rfl⟩ : ∃ m, k = m + 1 := ⟨k - 1, by omega⟩
      simp only [slices_IndexFunc_api_Token_api_Token_at_token_Join_1.l0]
      rw [if_pos (by omega), if_pos (by omega), if_pos (by omega), hrd]
      refine bind_of (hj m (by omega)) ?_
      rw [if_pos hb]
    | false =>
      refine ⟨r, ⟨K1 + K2 + 1, fun k hk => ?_⟩, by rw [Bool.false_or]; exact h3⟩
      obtain ⟨m, rfl⟩ : ∃ m, k = m + 1 := ⟨k - 1, by omega⟩
      simp only [slices_IndexFunc_api_Token_api_Token_at_token_Join_1.l0]
      rw [if_pos (by omega), if_pos (by omega), if_pos (by omega), hrd]
      refine bind_of (hj m (by omega)) ?_
      rw [hb, if_neg (by decide), w64 (by omega) (by omega)]
      exact e2 m (by omega)
theorem good_of {l : List S44} (h : l.any badS = false) : ∀ x ∈ l, Tok.formT (ofS x) = true := by
  intro x hx
  have := List.any_eq_false.1 h x hx
  unfold badS at this
  simpa using this
def joinS (l : List S44) : ByteArray × Int :=
  if l.length > 20000 then (toB [], 3) else if l.any badS = true then (toB [], 5) else if (Tok.outT la0 (l.map ofS)).length > 20000 then (toB [], 3) else (toB (Tok.outT la0 (l.map ofS)), 0)
theorem ev_Join (l : List S44) (hl : l.length ≤ 100000) (hs : ∀ x ∈ l, x.f1.size ≤ 300) : Ev (fun k => token_Join.f k l) (joinS l) := by
  unfold joinS
  by_cases h1 : l.length > 20000
  · rw [if_pos h1]
    refine ⟨0, fun k _ => ?_⟩
    show token_Join.f k l = _
    unfold token_Join.f
    rw [if_pos (by omega)]
    rfl
  · rw [if_neg h1]
    obtain ⟨r, ⟨K1, e1⟩, h2⟩ := ev_badAt l hl hs _ 0 rfl (Nat.zero_le _)
    dsimp only at e1
    rw [List.drop_zero] at h2
    have hc : ∀ k, K1 ≤ k → slices_ContainsFunc_api_Token_api_Token_at_token_Join_1.f k l = some (l.any badS) := by
      intro k hk
      rw [← h2]
      exact bind_of (e1 k hk) rfl
    cases hb : l.any badS with
    | true =>
      rw [if_pos rfl]
      refine ⟨K1, fun k hk => ?_⟩
      show token_Join.f k l = _
      unfold token_Join.f
      rw [if_neg (by omega)]
      refine bind_of (hc k hk) ?_
      rw [if_pos hb]
      rfl
    | false =>
      rw [if_neg (by decide)]
      obtain ⟨K2, e2⟩ := ev_joinedZ l (by omega) (fun x hx => ⟨(Tok.form_good _ (good_of hb x hx)).1, hs x hx⟩)
      dsimp only at e2
      refine ⟨K1 + K2, fun k hk => ?_⟩
      show token_Join.f k l = _
      unfold token_Join.f
      rw [if_neg (by omega)]
      refine bind_of (hc k (by omega)) ?_
      rw [hb, if_neg (by decide)]
      refine bind_of (e2 k (by omega)) ?_
      rw [toB_size]
      by_cases h3 : (Tok.outT la0 (l.map ofS)).length > 20000
      · rw [if_pos h3, if_pos (by omega)]; rfl
      · rw [if_neg h3, if_neg (by omega)]
end Go.Proofs.YteobbnehdlcphaaDoor.P

