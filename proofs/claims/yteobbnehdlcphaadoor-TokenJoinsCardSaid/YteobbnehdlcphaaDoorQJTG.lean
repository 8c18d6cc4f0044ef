import Derived.Test.YteobbnehdlcphaaDoorQJP17
import Derived.Test.YteobbnehdlcphaaDoorQJT11
namespace Go.Proofs.YteobbnehdlcphaaDoor.Tok
theorem next_signs {s : Bs} (h : s ∈ signs) : next s = (4, s) ∧ s ≠ [] := by
  have h2 : (signs.all fun s => decide (next s = (4, s) ∧ s ≠ [])) = true := by decide
  exact of_decide_eq_true (List.all_eq_true.1 h2 s h)
theorem whole_sign (l : Bs) : wholeT 4 l = signs.contains l := by
  rw [Bool.eq_iff_iff]
  unfold wholeT
  rw [decide_eq_true_eq]
  constructor
  · rintro ⟨hne, h⟩
    cases l with
    | nil => exact absurd rfl hne
    | cons c r =>
      cases hl : isLetter c with
      | true =>
        rw [next_letter hl] at h
        injection h with h1 _
        split at h1 <;> cases h1
      | false =>
        by_cases hn : numN (c :: r) > 0
        · rw [next_digits hl hn] at h; injection h with h1 _; cases h1
        · rw [next_else hl hn] at h
          cases hs : signAt (c :: r) with
          | none => rw [hs] at h; injection h with h1 _; cases h1
          | some s =>
            rw [hs] at h
            injection h with _ h2
            rw [← h2]
            exact List.contains_iff_mem.2 (signAt_some hs).1
  · intro h
    have h1 : l ∈ signs := List.contains_iff_mem.1 h
    exact ⟨(next_signs h1).2, (next_signs h1).1⟩
def formT (t : T) : Bool :=
  if t.k = 1 then decide (t.t.length ≤ 24) && wholeT 1 t.t
  else if t.k = 2 then wholeT 2 t.t
  else if t.k = 3 then wholeT 3 t.t
  else if t.k = 4 then wholeT 4 t.t
  else if t.k = 5 then t.t == []
  else false
theorem whole_good {k : Int} {l : Bs} {a : Nat} (hk : k ≠ 5) (h : wholeT k l = true) : Good ⟨k, l, a⟩ := by
  unfold wholeT at h
  rw [decide_eq_true_eq] at h
  exact .inr ⟨hk, h.1, h.2⟩
theorem form_good (t : T) (h : formT t = true) : Good t ∧ (t.k = 1 → t.t.length ≤ 24) := by
  obtain ⟨k, l, a⟩ := t
  unfold formT at h
  dsimp only at h ⊢
  split at h
  · rename_i h1
    rw [Bool.and_eq_true, decide_eq_true_eq] at h
    subst h1
    exact ⟨whole_good (by decide) h.2, fun _ => h.1⟩
  · rename_i h1
    refine ⟨?_, fun h => absurd h h1⟩
    split at h
    · rename_i h2; subst h2; exact whole_good (by decide) h
    · split at h
      · rename_i h2; subst h2; exact whole_good (by decide) h
      · split at h
        · rename_i h2; subst h2; exact whole_good (by decide) h
        · split at h
          · rename_i h2
            exact .inl ⟨h2, beq_iff_eq.1 h⟩
          · cases h
end Go.Proofs.YteobbnehdlcphaaDoor.Tok
namespace Go.Proofs.YteobbnehdlcphaaDoor.P
open Go.RowKit Go.Proofs.YteobbnehdlcphaaDoorW.PrintWords Go.Proofs.YteobbnehdlcphaaDoorW.PrintLast Go.Proofs.YteobbnehdlcphaaDoorW.PrintMore
open Go.Proofs.YteobbnehdlcphaaDoor
attribute [local irreducible] bt
def ofS (x : S44) : Tok.T := ⟨x.f0, x.f1.data.toList, 0⟩
theorem ofS_k (x : S44) : (ofS x).k = x.f0 := rfl
theorem ofS_len (x : S44) : (ofS x).t.length = x.f1.size := len_eq _
def cutS (x : S44) : S44 := ⟨x.f0, x.f1.extract 0 (min x.f1.size 300), x.f2⟩
theorem cutS_size (x : S44) : (cutS x).f1.size ≤ 300 := by
  show (x.f1.extract 0 (min x.f1.size 300)).size ≤ 300
  rw [← len_eq, ext_upto, List.length_take]; omega
theorem rd_at (l : List S44) (i : Nat) (h : i < l.length) : rd_T44 l (i : Int) = l[i] := by
  unfold rd_T44
  rw [Int.toNat_natCast, List.getD_eq_getElem?_getD, List.getElem?_eq_getElem h]
  rfl
theorem ev_cut1 (l : List S44) (n : Nat) (hn : n ≤ 100000) : ∀ (d i : Nat) (acc : List S44), min l.length n - i = d → i ≤ min l.length n → acc.length ≤ i →
    Ev (fun k => fluxionlaw04_cut.l0 k l (n : Int) acc (i : Int)) (acc ++ ((l.take n).drop i).map cutS) := by
  intro d
  induction d with
  | zero =>
    intro i acc h1 h2 h3
    rw [List.drop_of_length_le (by rw [List.length_take]; omega), List.map_nil, List.append_nil]
    refine Ev.step (f := fun _ => some acc) (fun k => ?_) (Ev.now _)
    simp only [fluxionlaw04_cut.l0]
    by_cases h : (i : Int) < (l.length : Int)
    · rw [if_pos h, if_neg (by omega)]
    · rw [if_neg h]
  | succ d ih =>
    intro i acc h1 h2 h3
    have hi : i < (l.take n).length := by rw [List.length_take]; omega
    have hi2 : i < l.length := by omega
    have h4 := ih (i + 1) (acc ++ [cutS l[i]]) (by omega) (by omega) (by simp only [List.length_append, List.length_singleton]; omega)
    have he : acc ++ ((l.take n).drop i).map cutS = acc ++ [cutS l[i]] ++ ((l.take n).drop (i + 1)).map cutS := by
      rw [List.drop_eq_getElem_cons hi, List.map_cons, List.getElem_take, List.append_assoc]
      rfl
    rw [he]
    have hrd := rd_at l i hi2
    have hm : mn ((rd_T44 l (i : Int)).f1.size : Int) 300 = ((min (rd_T44 l (i : Int)).f1.size 300 : Nat) : Int) := by unfold mn; split <;> omega
    refine Ev.step (fun k => ?_) h4
    simp only [fluxionlaw04_cut.l0]
    rw [if_pos (by omega), if_pos (by omega), if_pos (by omega), hm, if_pos (by omega), if_pos (by omega), if_pos (by omega), Int.toNat_natCast, w64 (by omega) (by omega), hrd]
    rfl
theorem ev_cut (l : List S44) (n : Nat) (hn : n ≤ 100000) : Ev (fun k => fluxionlaw04_cut.f k l (n : Int)) ((l.take n).map cutS) := by
  have := ev_cut1 l n hn _ 0 [] rfl (Nat.zero_le _) (Nat.zero_le _)
  rw [List.drop_zero, List.nil_append] at this
  exact this
theorem ev_form (x : S44) (hx : x.f1.size ≤ 20000) : Ev (fun k => token_form.f k x.f0 x.f1 x.f2) (Tok.formT (ofS x)) := by
  have hsm : Sm x.f1 := Nat.le_trans hx (by decide)
  unfold Tok.formT
  rw [ofS_k, ofS_len]
  show Ev _ (if x.f0 = 1 then decide (x.f1.size ≤ 24) && Tok.wholeT 1 x.f1.data.toList else if x.f0 = 2 then Tok.wholeT 2 x.f1.data.toList else if x.f0 = 3 then Tok.wholeT 3 x.f1.data.toList else if x.f0 = 4 then Tok.wholeT 4 x.f1.data.toList else if x.f0 = 5 then x.f1.data.toList == [] else false)
  obtain ⟨K1, e1⟩ := ev_IsName x.f1 hsm
  obtain ⟨K2, e2⟩ := ev_whole x.f1 hsm x.f0
  dsimp only at e1 e2
  refine ⟨K1 + K2, fun k hk => ?_⟩
  show token_form.f k x.f0 x.f1 x.f2 = _
  unfold token_form.f
  by_cases h1 : x.f0 = 1
  · rw [if_pos h1, if_pos h1]; exact bind_of (e1 k (by omega)) rfl
  · rw [if_neg h1, if_neg h1]
    by_cases h2 : x.f0 = 2
    · rw [if_pos h2, if_pos h2]; exact bind_of (e2 k (by omega)) (by rw [h2])
    · rw [if_neg h2, if_neg h2]
      by_cases h3 : x.f0 = 3
      · rw [if_pos h3, if_pos h3]; exact bind_of (e2 k (by omega)) (by rw [h3])
      · rw [if_neg h3, if_neg h3]
        by_cases h4 : x.f0 = 4
        · rw [if_pos h4, if_pos h4]; exact bind_of (e2 k (by omega)) (by rw [h4])
        · rw [if_neg h4, if_neg h4]
          by_cases h5 : x.f0 = 5
          · rw [if_pos h5, if_pos h5, toList_eq]
          · rw [if_neg h5, if_neg h5]
theorem ev_isSign1 (x : ByteArray) (l : List ByteArray) (hl : l.length ≤ 1000) : ∀ (d i : Nat), l.length - i = d → i ≤ l.length →
    Ev (fun k => fluxionref04_isSign.l0 k x l (i : Int)) ((l.drop i).any fun t => x.data.toList == t.data.toList) := by
  intro d
  induction d with
  | zero =>
    intro i h1 h2
    rw [List.drop_of_length_le (by omega)]
    refine Ev.step (f := fun _ => some false) (fun k => ?_) (Ev.now _)
    simp only [fluxionref04_isSign.l0]
    rw [if_neg (by omega)]
  | succ d ih =>
    intro i h1 h2
    have hi : i < l.length := by omega
    rw [List.drop_eq_getElem_cons hi]
    have hrd : rdOf ByteArray.empty l (i : Int) = l[i] := by
      unfold rdOf
      rw [Int.toNat_natCast, List.getD_eq_getElem?_getD, List.getElem?_eq_getElem hi]
      rfl
    have h4 := ih (i + 1) (by omega) (by omega)
    rw [List.any_cons]
    by_cases he : x.data.toList = l[i].data.toList
    · rw [show (x.data.toList == l[i].data.toList) = true from beq_iff_eq.2 he, Bool.true_or]
      refine Ev.step (f := fun _ => some true) (fun k => ?_) (Ev.now _)
      simp only [fluxionref04_isSign.l0]
      rw [if_pos (by omega), if_pos (by omega), hrd, toList_eq, toList_eq, if_pos he.symm]
    · rw [show (x.data.toList == l[i].data.toList) = false from beq_eq_false_iff_ne.2 he, Bool.false_or]
      refine Ev.step (fun k => ?_) h4
      simp only [fluxionref04_isSign.l0]
      rw [if_pos (by omega), if_pos (by omega), hrd, toList_eq, toList_eq, if_neg (fun h => he h.symm), w64 (by omega) (by omega)]
      rfl
theorem any_signs (x : Tok.Bs) : (signsL.any fun t => x == t.data.toList) = Tok.signs.contains x := by
  rw [← signs_eq, List.contains_eq_any_beq, List.any_map]
  rfl
theorem ev_isSign (x : ByteArray) : Ev (fun k => fluxionref04_isSign.f k x) (Tok.wholeT 4 x.data.toList) := by
  obtain ⟨K, e⟩ := ev_isSign1 x signsL (by decide) _ 0 rfl (Nat.zero_le _)
  dsimp only at e
  rw [List.drop_zero, any_signs, ← Tok.whole_sign] at e
  refine ⟨K, fun k hk => ?_⟩
  show fluxionref04_isSign.f k x = _
  unfold fluxionref04_isSign.f
  exact bind_of signs_f (e k hk)
theorem ev_rGood (x : S44) (hx : x.f1.size ≤ 20000) : Ev (fun k => fluxionref04_Good.f k x.f0 x.f1 x.f2) (Tok.formT (ofS x)) := by
  have hsm : Sm x.f1 := Nat.le_trans hx (by decide)
  unfold Tok.formT
  rw [ofS_k, ofS_len, Tok.whole_word]
  show Ev _ (if x.f0 = 1 then decide (x.f1.size ≤ 24) && Tok.wholeT 1 x.f1.data.toList else if x.f0 = 2 then Tok.isWord x.f1.data.toList else if x.f0 = 3 then Tok.wholeT 3 x.f1.data.toList else if x.f0 = 4 then Tok.wholeT 4 x.f1.data.toList else if x.f0 = 5 then x.f1.data.toList == [] else false)
  obtain ⟨K1, e1⟩ := ev_rIsName x.f1 hsm
  obtain ⟨K2, e2⟩ := ev_rIsWord x.f1
  obtain ⟨K3, e3⟩ := ev_rIsNumber x.f1 hsm
  obtain ⟨K4, e4⟩ := ev_isSign x.f1
  dsimp only at e1 e2 e3 e4
  refine ⟨K1 + K2 + K3 + K4, fun k hk => ?_⟩
  show fluxionref04_Good.f k x.f0 x.f1 x.f2 = _
  unfold fluxionref04_Good.f
  by_cases h1 : x.f0 = 1
  · rw [if_pos h1, if_pos h1]; exact bind_of (e1 k (by omega)) rfl
  · rw [if_neg h1, if_neg h1]
    by_cases h2 : x.f0 = 2
    · rw [if_pos h2, if_pos h2]; exact bind_of (e2 k (by omega)) rfl
    · rw [if_neg h2, if_neg h2]
      by_cases h3 : x.f0 = 3
      · rw [if_pos h3, if_pos h3]; exact bind_of (e3 k (by omega)) rfl
      · rw [if_neg h3, if_neg h3]
        by_cases h4 : x.f0 = 4
        · rw [if_pos h4, if_pos h4]; exact bind_of (e4 k (by omega)) rfl
        · rw [if_neg h4, if_neg h4]
          by_cases h5 : x.f0 = 5
          · rw [if_pos h5, if_pos h5, toList_eq]
          · rw [if_neg h5, if_neg h5]
end Go.Proofs.YteobbnehdlcphaaDoor.P

