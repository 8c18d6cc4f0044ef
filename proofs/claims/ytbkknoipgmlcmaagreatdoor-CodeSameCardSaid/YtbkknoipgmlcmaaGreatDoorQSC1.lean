import Derived.Lib.Strings
import Derived.Test.YtbkknoipgmlcmaaGreatDoorQSP13
set_option linter.unusedVariables false
set_option linter.unusedSimpArgs false
namespace Go.Proofs.YtbkknoipgmlcmaaGreatDoor.P
open Go.RowKit Go.Proofs.YtbkknoipgmlcmaaGreatDoorW.PrintWords Go.Proofs.YtbkknoipgmlcmaaGreatDoorW.PrintLast Go.Proofs.YtbkknoipgmlcmaaGreatDoorW.PrintMore
theorem w64 {n : Int} (h0 : -9223372036854775808 ≤ n) (h1 : n < 9223372036854775808) : wrap64 n = n := by unfold wrap64; omega
theorem w64s {i : Nat} (h : i ≤ 100000) : wrap64 ((i : Int) + 1) = ((i + 1 : Nat) : Int) := by rw [w64 (by omega) (by omega)]; rfl
theorem bind_of {α β : Type} {a : Option α} {x : α} {f : α → Option β} {y : Option β} (h : a = some x) (h2 : f x = y) : a.bind f = y := by rw [h]; exact h2
theorem eqL_len {α : Type} {f : α → α → Bool} : ∀ xs ys : List α, eqL f xs ys = true → xs.length = ys.length
  | [], [], _ => rfl
  | [], _ :: _, h => by cases h
  | _ :: _, [], h => by cases h
  | x :: xs, y :: ys, h => by
    simp only [eqL, Bool.and_eq_true] at h
    rw [List.length_cons, List.length_cons, eqL_len xs ys h.2]
theorem eqL_ne {α : Type} {f : α → α → Bool} {xs ys : List α} (h : xs.length ≠ ys.length) : eqL f xs ys = false := by
  cases h2 : eqL f xs ys with
  | false => rfl
  | true => exact absurd (eqL_len xs ys h2) h
theorem eqL_self {α : Type} {f : α → α → Bool} : ∀ xs : List α, (∀ x ∈ xs, f x x = true) → eqL f xs xs = true
  | [], _ => rfl
  | x :: xs, h => by
    show (f x x && eqL f xs xs) = true
    rw [h x List.mem_cons_self, eqL_self xs (fun y hy => h y (List.mem_cons_of_mem _ hy))]
    rfl
def eqI (x y : Int) : Bool := decide (x = y)
theorem eqL_int : ∀ xs ys : List Int, eqL eqI xs ys = decide (xs = ys)
  | [], [] => rfl
  | [], _ :: _ => rfl
  | _ :: _, [] => rfl
  | x :: xs, y :: ys => by
    show (eqI x y && eqL eqI xs ys) = _
    rw [eqL_int xs ys]
    unfold eqI
    rw [Bool.eq_iff_iff, Bool.and_eq_true, decide_eq_true_eq, decide_eq_true_eq, decide_eq_true_eq, List.cons.injEq]
theorem ev_loop {α : Type} (xs ys : List α) (f : α → α → Bool) (hl : xs.length = ys.length) (el : Nat → α → α → Option Bool) (g : Nat → Int → Option Bool)
    (hel : ∀ i (h : i < xs.length) (h2 : i < ys.length), Ev (fun k => el k xs[i] ys[i]) (f xs[i] ys[i]))
    (hg : ∀ k i (h : i < xs.length) (h2 : i < ys.length), g (k + 1) (i : Int) = (el k xs[i] ys[i]).bind fun t => if t = true then g k ((i + 1 : Nat) : Int) else some false)
    (hend : ∀ k, g (k + 1) (xs.length : Int) = some true) :
    ∀ (d i : Nat), xs.length - i = d → i ≤ xs.length → Ev (fun k => g k (i : Int)) (eqL f (xs.drop i) (ys.drop i)) := by
  intro d
  induction d with
  | zero =>
    intro i h1 h2
    obtain rfl : i = xs.length := by omega
    rw [List.drop_of_length_le (Nat.le_refl _), List.drop_of_length_le (by omega)]
    exact ⟨1, fun k hk => by
      obtain ⟨m, rfl⟩ : ∃ m, k = m + 1 := ⟨k - 1, by omega⟩
      exact hend m⟩
  | succ d ih =>
    intro i h1 h2
    have hi : i < xs.length := by omega
    have hi2 : i < ys.length := by omega
    obtain ⟨K1, e1⟩ := hel i hi hi2
    obtain ⟨K2, e2⟩ := ih (i + 1) (by omega) (by omega)
    dsimp only at e1 e2
    rw [List.drop_eq_getElem_cons hi, List.drop_eq_getElem_cons hi2]
    refine ⟨K1 + K2 + 1, fun k hk => ?_⟩
    obtain ⟨m, rfl⟩ : ∃ m, k = m + 1 := ⟨k - 1, by omega⟩
    show g (m + 1) (i : Int) = some (f xs[i] ys[i] && eqL f (xs.drop (i + 1)) (ys.drop (i + 1)))
    rw [hg m i hi hi2]
    refine bind_of (e1 m (by omega)) ?_
    cases f xs[i] ys[i] with
    | true => rw [if_pos rfl, Bool.true_and]; exact e2 m (by omega)
    | false => rw [if_neg (by decide), Bool.false_and]
theorem rd_at (l : List Int) (i : Nat) (h : i < l.length) : rd l (i : Int) = l[i] := by
  unfold rd
  rw [Int.toNat_natCast, List.getD_eq_getElem?_getD, List.getElem?_eq_getElem h]
  rfl
theorem rd115_at (l : List S115) (i : Nat) (h : i < l.length) : rd_T115 l (i : Int) = l[i] := by
  unfold rd_T115
  rw [Int.toNat_natCast, List.getD_eq_getElem?_getD, List.getElem?_eq_getElem h]
  rfl
theorem rd63_at (l : List S63) (i : Nat) (h : i < l.length) : rd_T63 l (i : Int) = l[i] := by
  unfold rd_T63
  rw [Int.toNat_natCast, List.getD_eq_getElem?_getD, List.getElem?_eq_getElem h]
  rfl
theorem rd50_at (l : List S50) (i : Nat) (h : i < l.length) : rd_T50 l (i : Int) = l[i] := by
  unfold rd_T50
  rw [Int.toNat_natCast, List.getD_eq_getElem?_getD, List.getElem?_eq_getElem h]
  rfl
theorem ev_ints (a b : List Int) (ha : a.length ≤ 100000) : Ev (fun k => slices_Equal_int_int.f k a b) (decide (a = b)) := by
  rw [← eqL_int]
  by_cases hl : a.length = b.length
  · have h := ev_loop a b eqI hl (fun _ x y => some (eqI x y)) (fun k i => slices_Equal_int_int.l0 k a b (a.length : Int) i) (fun i h h2 => Ev.now _)
      (fun k i h h2 => by
        simp only [slices_Equal_int_int.l0]
        rw [if_pos (by omega), if_pos (by omega), if_pos (by omega), if_pos (by omega), rd_at a i h, rd_at b i h2, w64s (by omega)]
        show _ = if eqI a[i] b[i] = true then _ else _
        unfold eqI
        by_cases he : a[i] = b[i]
        · rw [if_pos he, if_pos (decide_eq_true he)]
        · rw [if_neg he, if_neg (by rw [decide_eq_false he]; decide)])
      (fun k => by simp only [slices_Equal_int_int.l0]; rw [if_neg (by omega)]) _ 0 rfl (Nat.zero_le _)
    obtain ⟨K, e⟩ := h
    dsimp only at e
    rw [List.drop_zero, List.drop_zero] at e
    refine ⟨K, fun k hk => ?_⟩
    show slices_Equal_int_int.f k a b = _
    unfold slices_Equal_int_int.f
    rw [if_pos (by omega)]
    exact e k hk
  · rw [eqL_ne hl]
    refine ⟨0, fun k _ => ?_⟩
    show slices_Equal_int_int.f k a b = _
    unfold slices_Equal_int_int.f
    rw [if_neg (by omega)]
theorem ev_u32s (a b : List Int) (ha : a.length ≤ 100000) : Ev (fun k => slices_Equal_uint32_uint32.f k a b) (decide (a = b)) := by
  rw [← eqL_int]
  by_cases hl : a.length = b.length
  · have h := ev_loop a b eqI hl (fun _ x y => some (eqI x y)) (fun k i => slices_Equal_uint32_uint32.l0 k a b (a.length : Int) i) (fun i h h2 => Ev.now _)
      (fun k i h h2 => by
        simp only [slices_Equal_uint32_uint32.l0]
        rw [if_pos (by omega), if_pos (by omega), if_pos (by omega), if_pos (by omega), rd_at a i h, rd_at b i h2, w64s (by omega)]
        show _ = if eqI a[i] b[i] = true then _ else _
        unfold eqI
        by_cases he : a[i] = b[i]
        · rw [if_pos he, if_pos (decide_eq_true he)]
        · rw [if_neg he, if_neg (by rw [decide_eq_false he]; decide)])
      (fun k => by simp only [slices_Equal_uint32_uint32.l0]; rw [if_neg (by omega)]) _ 0 rfl (Nat.zero_le _)
    obtain ⟨K, e⟩ := h
    dsimp only at e
    rw [List.drop_zero, List.drop_zero] at e
    refine ⟨K, fun k hk => ?_⟩
    show slices_Equal_uint32_uint32.f k a b = _
    unfold slices_Equal_uint32_uint32.f
    rw [if_pos (by omega)]
    exact e k hk
  · rw [eqL_ne hl]
    refine ⟨0, fun k _ => ?_⟩
    show slices_Equal_uint32_uint32.f k a b = _
    unfold slices_Equal_uint32_uint32.f
    rw [if_neg (by omega)]
def Sh115 (x : S115) : Prop := x.f1.length ≤ 100000
def Sh61 (x : S61) : Prop := x.f2.length ≤ 100000 ∧ x.f3.length ≤ 100000
def Sh50 (x : S50) : Prop := (x.f1.length ≤ 100000 ∧ ∀ t ∈ x.f1, Sh115 t) ∧ (x.f2.length ≤ 100000 ∧ ∀ t ∈ x.f2, Sh115 t) ∧ (x.f4.length ≤ 100000 ∧ ∀ t ∈ x.f4, Sh61 t.f4)
theorem ev_sameType (x y : S115) (hx : Sh115 x) : Ev (fun k => code_sameType.f k x.f0 x.f1 y.f0 y.f1) (eq115 x y) := by
  obtain ⟨K, e⟩ := ev_ints x.f1 y.f1 hx
  dsimp only at e
  refine ⟨K, fun k hk => ?_⟩
  show code_sameType.f k x.f0 x.f1 y.f0 y.f1 = some (decide (x.f0 = y.f0) && decide (x.f1 = y.f1))
  unfold code_sameType.f
  by_cases h : x.f0 = y.f0
  · rw [if_pos h, decide_eq_true h, Bool.true_and]; exact bind_of (e k hk) rfl
  · rw [if_neg h, decide_eq_false h, Bool.false_and]
theorem bool_eq (a b : Bool) : (a == b) = decide (a = b) := by cases a <;> cases b <;> rfl
theorem ev_sameRat (x y : S61) (hx : Sh61 x) : Ev (fun k => code_sameRat.f k x.f0 x.f1 x.f2 x.f3 y.f0 y.f1 y.f2 y.f3) (eq61 x y) := by
  obtain ⟨K1, e1⟩ := ev_u32s x.f2 y.f2 hx.1
  obtain ⟨K2, e2⟩ := ev_u32s x.f3 y.f3 hx.2
  dsimp only at e1 e2
  refine ⟨K1 + K2, fun k hk => ?_⟩
  show code_sameRat.f k x.f0 x.f1 x.f2 x.f3 y.f0 y.f1 y.f2 y.f3 = some (decide (x.f0 = y.f0) && (decide (x.f1 = y.f1) && (decide (x.f2 = y.f2) && decide (x.f3 = y.f3))))
  unfold code_sameRat.f
  rw [bool_eq]
  by_cases h : x.f0 = y.f0
  · rw [if_pos h, decide_eq_true h, Bool.true_and]
    by_cases h1 : x.f1 = y.f1
    · rw [decide_eq_true h1, if_pos rfl, Bool.true_and]
      refine bind_of (e1 k (by omega)) ?_
      by_cases h2 : x.f2 = y.f2
      · rw [decide_eq_true h2, if_pos rfl, Bool.true_and]; exact bind_of (e2 k (by omega)) rfl
      · rw [decide_eq_false h2, if_neg (by decide), Bool.false_and]
    · rw [decide_eq_false h1, if_neg (by decide), Bool.false_and]
  · rw [if_neg h, decide_eq_false h, Bool.false_and]
theorem ev_sameIns (x y : S63) (hx : Sh61 x.f4) : Ev (fun k => code_sameIns.f k x.f0 x.f1 x.f2 x.f3 x.f4.f0 x.f4.f1 x.f4.f2 x.f4.f3 y.f0 y.f1 y.f2 y.f3 y.f4.f0 y.f4.f1 y.f4.f2 y.f4.f3) (eq63 x y) := by
  obtain ⟨K, e⟩ := ev_sameRat x.f4 y.f4 hx
  dsimp only at e
  refine ⟨K, fun k hk => ?_⟩
  show code_sameIns.f k x.f0 x.f1 x.f2 x.f3 x.f4.f0 x.f4.f1 x.f4.f2 x.f4.f3 y.f0 y.f1 y.f2 y.f3 y.f4.f0 y.f4.f1 y.f4.f2 y.f4.f3 = some (decide (x.f0 = y.f0) && (decide (x.f1 = y.f1) && (decide (x.f2 = y.f2) && (decide (x.f3 = y.f3) && eq61 x.f4 y.f4))))
  unfold code_sameIns.f
  by_cases h0 : x.f0 = y.f0
  · rw [if_pos h0, decide_eq_true h0, Bool.true_and]
    by_cases h1 : x.f1 = y.f1
    · rw [if_pos h1, decide_eq_true h1, Bool.true_and]
      by_cases h2 : x.f2 = y.f2
      · rw [if_pos h2, decide_eq_true h2, Bool.true_and]
        by_cases h3 : x.f3 = y.f3
        · rw [if_pos h3, decide_eq_true h3, Bool.true_and]; exact bind_of (e k hk) rfl
        · rw [if_neg h3, decide_eq_false h3, Bool.false_and]
      · rw [if_neg h2, decide_eq_false h2, Bool.false_and]
    · rw [if_neg h1, decide_eq_false h1, Bool.false_and]
  · rw [if_neg h0, decide_eq_false h0, Bool.false_and]
theorem ev_types (a b : List S115) (ha : a.length ≤ 100000) (hs : ∀ t ∈ a, Sh115 t) : Ev (fun k => slices_EqualFunc_api_Type_api_Type_api_Type_api_Type_at_code_sameType.f k a b) (eqL eq115 a b) := by
  by_cases hl : a.length = b.length
  · have h := ev_loop a b eq115 hl (fun k x y => code_sameType.f k x.f0 x.f1 y.f0 y.f1) (fun k i => slices_EqualFunc_api_Type_api_Type_api_Type_api_Type_at_code_sameType.l0 k b a (a.length : Int) i) (fun i h h2 => ev_sameType _ _ (hs _ (List.getElem_mem h)))
      (fun k i h h2 => by
        simp only [slices_EqualFunc_api_Type_api_Type_api_Type_api_Type_at_code_sameType.l0]
        rw [if_pos (by omega), if_pos (by omega), if_pos (by omega), if_pos (by omega), rd115_at a i h, rd115_at b i h2, w64s (by omega)])
      (fun k => by simp only [slices_EqualFunc_api_Type_api_Type_api_Type_api_Type_at_code_sameType.l0]; rw [if_neg (by omega)]) _ 0 rfl (Nat.zero_le _)
    obtain ⟨K, e⟩ := h
    dsimp only at e
    rw [List.drop_zero, List.drop_zero] at e
    refine ⟨K, fun k hk => ?_⟩
    show slices_EqualFunc_api_Type_api_Type_api_Type_api_Type_at_code_sameType.f k a b = _
    unfold slices_EqualFunc_api_Type_api_Type_api_Type_api_Type_at_code_sameType.f
    rw [if_pos (by omega)]
    exact e k hk
  · rw [eqL_ne hl]
    refine ⟨0, fun k _ => ?_⟩
    show slices_EqualFunc_api_Type_api_Type_api_Type_api_Type_at_code_sameType.f k a b = _
    unfold slices_EqualFunc_api_Type_api_Type_api_Type_api_Type_at_code_sameType.f
    rw [if_neg (by omega)]
theorem ev_inss (a b : List S63) (ha : a.length ≤ 100000) (hs : ∀ t ∈ a, Sh61 t.f4) : Ev (fun k => slices_EqualFunc_api_Ins_api_Ins_api_Ins_api_Ins_at_code_sameIns.f k a b) (eqL eq63 a b) := by
  by_cases hl : a.length = b.length
  · have h := ev_loop a b eq63 hl (fun k x y => code_sameIns.f k x.f0 x.f1 x.f2 x.f3 x.f4.f0 x.f4.f1 x.f4.f2 x.f4.f3 y.f0 y.f1 y.f2 y.f3 y.f4.f0 y.f4.f1 y.f4.f2 y.f4.f3) (fun k i => slices_EqualFunc_api_Ins_api_Ins_api_Ins_api_Ins_at_code_sameIns.l0 k b a (a.length : Int) i) (fun i h h2 => ev_sameIns _ _ (hs _ (List.getElem_mem h)))
      (fun k i h h2 => by
        simp only [slices_EqualFunc_api_Ins_api_Ins_api_Ins_api_Ins_at_code_sameIns.l0]
        rw [if_pos (by omega), if_pos (by omega), if_pos (by omega), if_pos (by omega), rd63_at a i h, rd63_at b i h2, w64s (by omega)])
      (fun k => by simp only [slices_EqualFunc_api_Ins_api_Ins_api_Ins_api_Ins_at_code_sameIns.l0]; rw [if_neg (by omega)]) _ 0 rfl (Nat.zero_le _)
    obtain ⟨K, e⟩ := h
    dsimp only at e
    rw [List.drop_zero, List.drop_zero] at e
    refine ⟨K, fun k hk => ?_⟩
    show slices_EqualFunc_api_Ins_api_Ins_api_Ins_api_Ins_at_code_sameIns.f k a b = _
    unfold slices_EqualFunc_api_Ins_api_Ins_api_Ins_api_Ins_at_code_sameIns.f
    rw [if_pos (by omega)]
    exact e k hk
  · rw [eqL_ne hl]
    refine ⟨0, fun k _ => ?_⟩
    show slices_EqualFunc_api_Ins_api_Ins_api_Ins_api_Ins_at_code_sameIns.f k a b = _
    unfold slices_EqualFunc_api_Ins_api_Ins_api_Ins_api_Ins_at_code_sameIns.f
    rw [if_neg (by omega)]
theorem ev_Same1 (x y : S50) (hx : Sh50 x) : Ev (fun k => code_Same_1.f k x.f0 x.f1 x.f2 x.f3 x.f4 y.f0 y.f1 y.f2 y.f3 y.f4) (eq50 x y) := by
  obtain ⟨K1, e1⟩ := ev_types x.f1 y.f1 hx.1.1 hx.1.2
  obtain ⟨K2, e2⟩ := ev_types x.f2 y.f2 hx.2.1.1 hx.2.1.2
  obtain ⟨K3, e3⟩ := ev_inss x.f4 y.f4 hx.2.2.1 hx.2.2.2
  dsimp only at e1 e2 e3
  refine ⟨K1 + K2 + K3, fun k hk => ?_⟩
  show code_Same_1.f k x.f0 x.f1 x.f2 x.f3 x.f4 y.f0 y.f1 y.f2 y.f3 y.f4 = some (decide (x.f0.data.toList = y.f0.data.toList) && (eqL eq115 x.f1 y.f1 && (eqL eq115 x.f2 y.f2 && (decide (x.f3 = y.f3) && eqL eq63 x.f4 y.f4))))
  unfold code_Same_1.f
  rw [Lib.toList_data, Lib.toList_data]
  by_cases h0 : x.f0.data.toList = y.f0.data.toList
  · rw [if_pos h0, decide_eq_true h0, Bool.true_and]
    by_cases h3 : x.f3 = y.f3
    · rw [if_pos h3, decide_eq_true h3, Bool.true_and]
      refine bind_of (e1 k (by omega)) ?_
      cases eqL eq115 x.f1 y.f1 with
      | false => rw [if_neg (by decide), Bool.false_and]
      | true =>
        rw [if_pos rfl, Bool.true_and]
        refine bind_of (e2 k (by omega)) ?_
        cases eqL eq115 x.f2 y.f2 with
        | false => rw [if_neg (by decide), Bool.false_and]
        | true => rw [if_pos rfl, Bool.true_and]; exact bind_of (e3 k (by omega)) rfl
    · rw [if_neg h3, decide_eq_false h3, Bool.false_and, Bool.and_false, Bool.and_false]
  · rw [if_neg h0, decide_eq_false h0, Bool.false_and]
theorem ev_codeSame (a b : List S50) (ha : a.length ≤ 100000) (hs : ∀ t ∈ a, Sh50 t) : Ev (fun k => code_Same.f k a b) (eqL eq50 a b) := by
  by_cases hl : a.length = b.length
  · have h := ev_loop a b eq50 hl (fun k x y => code_Same_1.f k x.f0 x.f1 x.f2 x.f3 x.f4 y.f0 y.f1 y.f2 y.f3 y.f4) (fun k i => slices_EqualFunc_api_Routine_api_Routine_api_Routine_api_Routine_at_code_Same_1.l0 k b a (a.length : Int) i) (fun i h h2 => ev_Same1 _ _ (hs _ (List.getElem_mem h)))
      (fun k i h h2 => by
        simp only [slices_EqualFunc_api_Routine_api_Routine_api_Routine_api_Routine_at_code_Same_1.l0]
        rw [if_pos (by omega), if_pos (by omega), if_pos (by omega), if_pos (by omega), rd50_at a i h, rd50_at b i h2, w64s (by omega)])
      (fun k => by simp only [slices_EqualFunc_api_Routine_api_Routine_api_Routine_api_Routine_at_code_Same_1.l0]; rw [if_neg (by omega)]) _ 0 rfl (Nat.zero_le _)
    obtain ⟨K, e⟩ := h
    dsimp only at e
    rw [List.drop_zero, List.drop_zero] at e
    refine ⟨K, fun k hk => ?_⟩
    show code_Same.f k a b = _
    unfold code_Same.f slices_EqualFunc_api_Routine_api_Routine_api_Routine_api_Routine_at_code_Same_1.f
    rw [if_pos (by omega)]
    exact bind_of (e k hk) rfl
  · rw [eqL_ne hl]
    refine ⟨0, fun k _ => ?_⟩
    show code_Same.f k a b = _
    unfold code_Same.f slices_EqualFunc_api_Routine_api_Routine_api_Routine_api_Routine_at_code_Same_1.f
    rw [if_neg (by omega)]
    rfl
theorem ev_rSameT (x y : S115) (hx : Sh115 x) : Ev (fun k => fluxionref03_Same.f k x.f0 x.f1 y.f0 y.f1) (eq115 x y) := by
  show Ev _ (decide (x.f0 = y.f0) && decide (x.f1 = y.f1))
  have hno : Ev (fun k => fluxionref03_Same.j0 k true x.f0 x.f1 y.f0 y.f1) false := Ev.step (f := fun _ => some false) (fun k => by simp only [fluxionref03_Same.j0]; rw [if_pos trivial]) (Ev.now _)
  by_cases h0 : x.f0 = y.f0
  · rw [decide_eq_true h0, Bool.true_and, ← eqL_int]
    by_cases hl : x.f1.length = y.f1.length
    · have h := ev_loop x.f1 y.f1 eqI hl (fun _ a b => some (eqI a b)) (fun k i => fluxionref03_Same.l0 k i x.f0 x.f1 y.f0 y.f1) (fun i h h2 => Ev.now _)
        (fun k i h h2 => by
          unfold Sh115 at hx
          simp only [fluxionref03_Same.l0]
          rw [if_pos (by omega), if_pos (by omega), if_pos (by omega), rd_at _ i h, rd_at _ i h2, w64s (by omega)]
          show _ = if eqI x.f1[i] y.f1[i] = true then _ else _
          unfold eqI
          by_cases he : x.f1[i] = y.f1[i]
          · rw [if_pos he, if_pos (decide_eq_true he)]
          · rw [if_neg he, if_neg (by rw [decide_eq_false he]; decide)])
        (fun k => by simp only [fluxionref03_Same.l0]; rw [if_neg (by omega)]) _ 0 rfl (Nat.zero_le _)
      obtain ⟨K, e⟩ := h
      dsimp only at e
      rw [List.drop_zero, List.drop_zero] at e
      refine ⟨K + 1, fun k hk => ?_⟩
      obtain ⟨m, rfl⟩ : ∃ m, k = m + 1 := ⟨k - 1, by omega⟩
      show fluxionref03_Same.f (m + 1) x.f0 x.f1 y.f0 y.f1 = _
      unfold fluxionref03_Same.f
      rw [if_pos h0, show ((x.f1.length : Int) != (y.f1.length : Int)) = false from by rw [hl]; exact bne_self_eq_false _]
      simp only [fluxionref03_Same.j0]
      rw [if_neg (by decide)]
      exact e m (by omega)
    · rw [eqL_ne hl]
      obtain ⟨K, e⟩ := hno
      dsimp only at e
      refine ⟨K, fun k hk => ?_⟩
      show fluxionref03_Same.f k x.f0 x.f1 y.f0 y.f1 = _
      unfold fluxionref03_Same.f
      rw [if_pos h0, show ((x.f1.length : Int) != (y.f1.length : Int)) = true from bne_iff_ne.2 (by omega)]
      exact e k hk
  · rw [decide_eq_false h0, Bool.false_and]
    obtain ⟨K, e⟩ := hno
    dsimp only at e
    refine ⟨K, fun k hk => ?_⟩
    show fluxionref03_Same.f k x.f0 x.f1 y.f0 y.f1 = _
    unfold fluxionref03_Same.f
    rw [if_neg h0]
    exact e k hk
theorem ev_alike (a b : List S115) (ha : a.length ≤ 100000) (hs : ∀ t ∈ a, Sh115 t) : Ev (fun k => fluxionref29_alike.f k a b) (eqL eq115 a b) := by
  by_cases hl : a.length = b.length
  · have h := ev_loop a b eq115 hl (fun k x y => fluxionref03_Same.f k x.f0 x.f1 y.f0 y.f1) (fun k i => fluxionref29_alike.l0 k a b (a.length : Int) i) (fun i h h2 => ev_rSameT _ _ (hs _ (List.getElem_mem h)))
      (fun k i h h2 => by
        simp only [fluxionref29_alike.l0]
        rw [if_pos (by omega), if_pos (by omega), if_pos (by omega), if_pos (by omega), rd115_at a i h, rd115_at b i h2, w64s (by omega)])
      (fun k => by simp only [fluxionref29_alike.l0]; rw [if_neg (by omega)]) _ 0 rfl (Nat.zero_le _)
    obtain ⟨K, e⟩ := h
    dsimp only at e
    rw [List.drop_zero, List.drop_zero] at e
    refine ⟨K, fun k hk => ?_⟩
    show fluxionref29_alike.f k a b = _
    unfold fluxionref29_alike.f
    rw [if_pos (by omega)]
    exact e k hk
  · rw [eqL_ne hl]
    refine ⟨0, fun k _ => ?_⟩
    show fluxionref29_alike.f k a b = _
    unfold fluxionref29_alike.f
    rw [if_neg (by omega)]
theorem ev_rEqual (x y : S61) (hx : Sh61 x) : Ev (fun k => fluxionref29_Equal.f k x.f0 x.f1 x.f2 x.f3 y.f0 y.f1 y.f2 y.f3) (eq61 x y) := by
  show Ev _ (decide (x.f0 = y.f0) && (decide (x.f1 = y.f1) && (decide (x.f2 = y.f2) && decide (x.f3 = y.f3))))
  have hno : Ev (fun k => fluxionref29_Equal.j0 k true x.f0 x.f1 x.f2 x.f3 y.f0 y.f1 y.f2 y.f3) false := Ev.step (f := fun _ => some false) (fun k => by simp only [fluxionref29_Equal.j0]; rw [if_pos trivial]) (Ev.now _)
  have hx2 := hx.1
  have hx3 := hx.2
  have hne : ((x.f1 != y.f1) = true) ↔ ¬ x.f1 = y.f1 := bne_iff_ne
  by_cases h0 : x.f0 = y.f0
  · by_cases h1 : x.f1 = y.f1
    · rw [decide_eq_true h0, decide_eq_true h1, Bool.true_and, Bool.true_and, ← eqL_int, ← eqL_int]
      by_cases hl2 : x.f2.length = y.f2.length
      · by_cases hl3 : x.f3.length = y.f3.length
        · have hB := ev_loop x.f3 y.f3 eqI hl3 (fun _ a b => some (eqI a b)) (fun k i => fluxionref29_Equal.l1 k (x.f3.length : Int) i x.f0 x.f1 x.f2 x.f3 y.f0 y.f1 y.f2 y.f3) (fun i h h2 => Ev.now _)
            (fun k i h h2 => by
              simp only [fluxionref29_Equal.l1]
              rw [if_pos (by omega), if_pos (by omega), if_pos (by omega), if_pos (by omega), rd_at _ i h, rd_at _ i h2, w64s (by omega)]
              show _ = if eqI x.f3[i] y.f3[i] = true then _ else _
              unfold eqI
              by_cases he : x.f3[i] = y.f3[i]
              · rw [if_pos he, if_pos (decide_eq_true he)]
              · rw [if_neg he, if_neg (by rw [decide_eq_false he]; decide)])
            (fun k => by simp only [fluxionref29_Equal.l1]; rw [if_neg (by omega)]) _ 0 rfl (Nat.zero_le _)
          rw [List.drop_zero, List.drop_zero] at hB
          have hA : ∀ (d i : Nat), x.f2.length - i = d → i ≤ x.f2.length → Ev (fun k => fluxionref29_Equal.l0 k (x.f2.length : Int) (i : Int) x.f0 x.f1 x.f2 x.f3 y.f0 y.f1 y.f2 y.f3) (eqL eqI (x.f2.drop i) (y.f2.drop i) && eqL eqI x.f3 y.f3) := by
            intro d
            induction d with
            | zero =>
              intro i g1 g2
              rw [List.drop_of_length_le (by omega), List.drop_of_length_le (by omega)]
              show Ev _ (true && eqL eqI x.f3 y.f3)
              rw [Bool.true_and]
              refine Ev.step (fun k => ?_) hB
              simp only [fluxionref29_Equal.l0]
              rw [if_neg (by omega)]
              rfl
            | succ d ih =>
              intro i g1 g2
              have hi : i < x.f2.length := by omega
              have hi2 : i < y.f2.length := by omega
              rw [List.drop_eq_getElem_cons hi, List.drop_eq_getElem_cons hi2]
              show Ev _ ((eqI x.f2[i] y.f2[i] && eqL eqI (x.f2.drop (i + 1)) (y.f2.drop (i + 1))) && eqL eqI x.f3 y.f3)
              have g3 := ih (i + 1) (by omega) (by omega)
              unfold eqI
              by_cases he : x.f2[i] = y.f2[i]
              · rw [decide_eq_true he, Bool.true_and]
                refine Ev.step (fun k => ?_) g3
                simp only [fluxionref29_Equal.l0]
                rw [if_pos (by omega), if_pos (by omega), if_pos (by omega), if_pos (by omega), rd_at _ i hi, rd_at _ i hi2, w64s (by omega), if_pos he]
              · rw [decide_eq_false he, Bool.false_and, Bool.false_and]
                refine Ev.step (f := fun _ => some false) (fun k => ?_) (Ev.now _)
                simp only [fluxionref29_Equal.l0]
                rw [if_pos (by omega), if_pos (by omega), if_pos (by omega), if_pos (by omega), rd_at _ i hi, rd_at _ i hi2, if_neg he]
          obtain ⟨K, e⟩ := hA _ 0 rfl (Nat.zero_le _)
          dsimp only at e
          rw [List.drop_zero, List.drop_zero] at e
          refine ⟨K + 1, fun k hk => ?_⟩
          obtain ⟨m, rfl⟩ : ∃ m, k = m + 1 := ⟨k - 1, by omega⟩
          show fluxionref29_Equal.f (m + 1) x.f0 x.f1 x.f2 x.f3 y.f0 y.f1 y.f2 y.f3 = _
          unfold fluxionref29_Equal.f
          rw [if_pos h0, if_neg (fun h => hne.1 h h1), if_pos (by omega), show ((x.f3.length : Int) != (y.f3.length : Int)) = false from by rw [hl3]; exact bne_self_eq_false _]
          simp only [fluxionref29_Equal.j0]
          rw [if_neg (by decide)]
          exact e m (by omega)
        · rw [eqL_ne hl3, Bool.and_false]
          obtain ⟨K, e⟩ := hno
          dsimp only at e
          refine ⟨K, fun k hk => ?_⟩
          show fluxionref29_Equal.f k x.f0 x.f1 x.f2 x.f3 y.f0 y.f1 y.f2 y.f3 = _
          unfold fluxionref29_Equal.f
          rw [if_pos h0, if_neg (fun h => hne.1 h h1), if_pos (by omega), show ((x.f3.length : Int) != (y.f3.length : Int)) = true from bne_iff_ne.2 (by omega)]
          exact e k hk
      · rw [eqL_ne hl2, Bool.false_and]
        obtain ⟨K, e⟩ := hno
        dsimp only at e
        refine ⟨K, fun k hk => ?_⟩
        show fluxionref29_Equal.f k x.f0 x.f1 x.f2 x.f3 y.f0 y.f1 y.f2 y.f3 = _
        unfold fluxionref29_Equal.f
        rw [if_pos h0, if_neg (fun h => hne.1 h h1), if_neg (by omega)]
        exact e k hk
    · rw [decide_eq_false h1, Bool.false_and, Bool.and_false]
      obtain ⟨K, e⟩ := hno
      dsimp only at e
      refine ⟨K, fun k hk => ?_⟩
      show fluxionref29_Equal.f k x.f0 x.f1 x.f2 x.f3 y.f0 y.f1 y.f2 y.f3 = _
      unfold fluxionref29_Equal.f
      rw [if_pos h0, if_pos (hne.2 h1)]
      exact e k hk
  · rw [decide_eq_false h0, Bool.false_and]
    obtain ⟨K, e⟩ := hno
    dsimp only at e
    refine ⟨K, fun k hk => ?_⟩
    show fluxionref29_Equal.f k x.f0 x.f1 x.f2 x.f3 y.f0 y.f1 y.f2 y.f3 = _
    unfold fluxionref29_Equal.f
    rw [if_neg h0]
    exact e k hk
theorem ev_rSame (a b : List S50) (ha : a.length ≤ 100000) (hs : ∀ t ∈ a, Sh50 t) : Ev (fun k => fluxionref29_Same.f k a b) (eqL eq50 a b) := by
  by_cases hl : a.length = b.length
  · have hL : ∀ (d i : Nat), a.length - i = d → i ≤ a.length → Ev (fun k => fluxionref29_Same.l0 k a b (a.length : Int) (i : Int)) (eqL eq50 (a.drop i) (b.drop i)) := by
      intro d
      induction d with
      | zero =>
        intro i g1 g2
        rw [List.drop_of_length_le (by omega), List.drop_of_length_le (by omega)]
        refine Ev.step (f := fun _ => some true) (fun k => ?_) (Ev.now _)
        simp only [fluxionref29_Same.l0]
        rw [if_neg (by omega)]
      | succ d ih =>
        intro i g1 g2
        have hi : i < a.length := by omega
        have hi2 : i < b.length := by omega
        have hra := rd50_at a i hi
        have hrb := rd50_at b i hi2
        obtain ⟨⟨p1, p2⟩, ⟨q1, q2⟩, s1, s2⟩ := hs a[i] (List.getElem_mem hi)
        rw [List.drop_eq_getElem_cons hi, List.drop_eq_getElem_cons hi2]
        obtain ⟨K0, e0⟩ := ih (i + 1) (by omega) (by omega)
        obtain ⟨K1, e1⟩ := ev_alike a[i].f1 b[i].f1 p1 p2
        obtain ⟨K2, e2⟩ := ev_alike a[i].f2 b[i].f2 q1 q2
        dsimp only at e0 e1 e2
        have hI : a[i].f4.length = b[i].f4.length → ∀ (d j : Nat), a[i].f4.length - j = d → j ≤ a[i].f4.length → Ev (fun k => fluxionref29_Same.l1 k a b (i : Int) (a.length : Int) (i : Int) a[i].f4 (a[i].f4.length : Int) (j : Int)) (eqL eq63 (a[i].f4.drop j) (b[i].f4.drop j) && eqL eq50 (a.drop (i + 1)) (b.drop (i + 1))) := by
          intro hl4 d
          induction d with
          | zero =>
            intro j r1 r2
            rw [List.drop_of_length_le (l := a[i].f4) (by omega), List.drop_of_length_le (l := b[i].f4) (by omega)]
            show Ev _ (true && eqL eq50 (a.drop (i + 1)) (b.drop (i + 1)))
            rw [Bool.true_and]
            refine Ev.step (fun k => ?_) ⟨K0, e0⟩
            simp only [fluxionref29_Same.l1]
            rw [if_neg (by omega), w64s (by omega)]
          | succ d ih2 =>
            intro j r1 r2
            have hj : j < a[i].f4.length := by omega
            have hj2 : j < b[i].f4.length := by omega
            have hja := rd63_at a[i].f4 j hj
            have hjb := rd63_at b[i].f4 j hj2
            rw [List.drop_eq_getElem_cons hj, List.drop_eq_getElem_cons hj2]
            obtain ⟨K4, e4⟩ := ih2 (j + 1) (by omega) (by omega)
            obtain ⟨K5, e5⟩ := ev_rEqual a[i].f4[j].f4 b[i].f4[j].f4 (s2 _ (List.getElem_mem hj))
            dsimp only at e4 e5
            generalize a[i].f4[j] = x at *
            generalize b[i].f4[j] = y at *
            refine ⟨K4 + K5 + 1, fun k hk => ?_⟩
            obtain ⟨m, rfl⟩ : ∃ m, k = m + 1 := ⟨k - 1, by omega⟩
            show fluxionref29_Same.l1 (m + 1) a b (i : Int) (a.length : Int) (i : Int) a[i].f4 (a[i].f4.length : Int) (j : Int) = some (((decide (x.f0 = y.f0) && (decide (x.f1 = y.f1) && (decide (x.f2 = y.f2) && (decide (x.f3 = y.f3) && eq61 x.f4 y.f4)))) && eqL eq63 (a[i].f4.drop (j + 1)) (b[i].f4.drop (j + 1))) && eqL eq50 (a.drop (i + 1)) (b.drop (i + 1)))
            simp only [fluxionref29_Same.l1]
            rw [if_pos (by omega), if_pos (by omega), if_pos (by omega), if_pos (by omega), if_pos (by omega), hrb, if_pos (by omega), hja, hjb, w64s (by omega)]
            by_cases h0 : x.f0 = y.f0
            · rw [if_pos h0, decide_eq_true h0, Bool.true_and]
              by_cases h1 : x.f1 = y.f1
              · rw [if_pos h1, decide_eq_true h1, Bool.true_and]
                by_cases h2 : x.f2 = y.f2
                · rw [if_pos h2, decide_eq_true h2, Bool.true_and]
                  by_cases h3 : x.f3 = y.f3
                  · rw [if_pos h3, decide_eq_true h3, Bool.true_and]
                    refine bind_of (e5 m (by omega)) ?_
                    cases eq61 x.f4 y.f4 with
                    | true => rw [if_pos rfl, Bool.true_and]; exact e4 m (by omega)
                    | false => rw [if_neg (by decide), Bool.false_and, Bool.false_and]
                  · rw [if_neg h3, decide_eq_false h3, Bool.false_and, Bool.false_and, Bool.false_and]
                · rw [if_neg h2, decide_eq_false h2, Bool.false_and, Bool.false_and, Bool.false_and]
              · rw [if_neg h1, decide_eq_false h1, Bool.false_and, Bool.false_and, Bool.false_and]
            · rw [if_neg h0, decide_eq_false h0, Bool.false_and, Bool.false_and, Bool.false_and]
        have hno : ∀ k, 1 ≤ k → fluxionref29_Same.j1 k a b (i : Int) (a.length : Int) (i : Int) true = some false := by
          intro k hk
          obtain ⟨m, rfl⟩ : ∃ m, k = m + 1 := ⟨k - 1, by omega⟩
          simp only [fluxionref29_Same.j1]
          rw [if_pos trivial]
        have hyes : ∃ K3, ∀ k, K3 ≤ k → fluxionref29_Same.j1 k a b (i : Int) (a.length : Int) (i : Int) (((a[i].f4.length : Int) != (b[i].f4.length : Int))) = some (eqL eq63 a[i].f4 b[i].f4 && eqL eq50 (a.drop (i + 1)) (b.drop (i + 1))) := by
          by_cases hl4 : a[i].f4.length = b[i].f4.length
          · obtain ⟨K, e⟩ := hI hl4 _ 0 rfl (Nat.zero_le _)
            dsimp only at e
            rw [List.drop_zero, List.drop_zero] at e
            refine ⟨K + 1, fun k hk => ?_⟩
            obtain ⟨m, rfl⟩ : ∃ m, k = m + 1 := ⟨k - 1, by omega⟩
            rw [show ((a[i].f4.length : Int) != (b[i].f4.length : Int)) = false from by rw [hl4]; exact bne_self_eq_false _]
            simp only [fluxionref29_Same.j1]
            rw [if_neg (by decide), if_pos (by omega), if_pos (by omega), hra]
            exact e m (by omega)
          · rw [eqL_ne hl4, Bool.false_and, show ((a[i].f4.length : Int) != (b[i].f4.length : Int)) = true from bne_iff_ne.2 (by omega)]
            exact ⟨1, hno⟩
        obtain ⟨K3, e3⟩ := hyes
        generalize a[i] = x at *
        generalize b[i] = y at *
        refine ⟨K0 + K1 + K2 + K3 + 2, fun k hk => ?_⟩
        obtain ⟨m, rfl⟩ : ∃ m, k = m + 1 := ⟨k - 1, by omega⟩
        show fluxionref29_Same.l0 (m + 1) a b (a.length : Int) (i : Int) = some ((decide (x.f0.data.toList = y.f0.data.toList) && (eqL eq115 x.f1 y.f1 && (eqL eq115 x.f2 y.f2 && (decide (x.f3 = y.f3) && eqL eq63 x.f4 y.f4)))) && eqL eq50 (a.drop (i + 1)) (b.drop (i + 1)))
        simp only [fluxionref29_Same.l0]
        rw [if_pos (by omega), if_pos (by omega), if_pos (by omega), if_pos (by omega), hra, hrb, Lib.toList_data, Lib.toList_data]
        by_cases h0 : x.f0.data.toList = y.f0.data.toList
        · rw [if_pos h0, decide_eq_true h0, Bool.true_and]
          by_cases h3 : x.f3 = y.f3
          · rw [if_pos h3, decide_eq_true h3, Bool.true_and]
            refine bind_of (e1 m (by omega)) ?_
            cases eqL eq115 x.f1 y.f1 with
            | false => rw [if_neg (by decide), Bool.false_and, Bool.false_and]; exact hno m (by omega)
            | true =>
              rw [if_pos rfl, Bool.true_and]
              refine bind_of (e2 m (by omega)) ?_
              cases eqL eq115 x.f2 y.f2 with
              | false => rw [if_neg (by decide), Bool.false_and, Bool.false_and]; exact hno m (by omega)
              | true => rw [if_pos rfl, Bool.true_and]; exact e3 m (by omega)
          · rw [if_neg h3, decide_eq_false h3, Bool.false_and, Bool.and_false, Bool.and_false, Bool.false_and]; exact hno m (by omega)
        · rw [if_neg h0, decide_eq_false h0, Bool.false_and, Bool.false_and]; exact hno m (by omega)
    obtain ⟨K, e⟩ := hL _ 0 rfl (Nat.zero_le _)
    dsimp only at e
    rw [List.drop_zero, List.drop_zero] at e
    refine ⟨K, fun k hk => ?_⟩
    show fluxionref29_Same.f k a b = _
    unfold fluxionref29_Same.f
    rw [if_pos (by omega)]
    exact e k hk
  · rw [eqL_ne hl]
    refine ⟨0, fun k _ => ?_⟩
    show fluxionref29_Same.f k a b = _
    unfold fluxionref29_Same.f
    rw [if_neg (by omega)]
theorem mn_nat (a b : Nat) : mn (a : Int) (b : Int) = ((min a b : Nat) : Int) := by
  unfold mn
  split <;> omega
theorem cutType_f (a : Int) (l : List Int) : ∃ r : List Int, fluxionref08_CutType.f a l = some (a, r) ∧ r.length ≤ 5 := by
  refine ⟨l.take (min l.length 5), ?_, by rw [List.length_take]; omega⟩
  unfold fluxionref08_CutType.f
  refine bind_of (x := ([] : List Int)) rfl ?_
  rw [show (5 : Int) = ((5 : Nat) : Int) from rfl, mn_nat, if_pos (by omega), if_pos (by omega), Int.toNat_natCast, if_pos (by rw [List.length_take]; show 0 + _ < _; omega), List.nil_append]
theorem ev_cutTypes (l : List S115) : ∃ r : List S115, Ev (fun k => fluxionref08_CutTypes.f k l) r ∧ r.length ≤ 66 ∧ ∀ t ∈ r, Sh115 t := by
  have hL : ∀ (d i : Nat) (acc : List S115), min l.length 66 - i = d → i ≤ min l.length 66 → acc.length ≤ i → (∀ t ∈ acc, Sh115 t) →
      ∃ r : List S115, Ev (fun k => fluxionref08_CutTypes.l0 k l acc (i : Int)) r ∧ r.length ≤ 66 ∧ ∀ t ∈ r, Sh115 t := by
    intro d
    induction d with
    | zero =>
      intro i acc h1 h2 h3 h4
      refine ⟨acc, Ev.step (f := fun _ => some acc) (fun k => ?_) (Ev.now _), by omega, h4⟩
      simp only [fluxionref08_CutTypes.l0]
      by_cases h : (i : Int) < (l.length : Int)
      · rw [if_pos h, if_neg (by omega)]
      · rw [if_neg h]
    | succ d ih =>
      intro i acc h1 h2 h3 h4
      have hi : i < l.length := by omega
      have hrd := rd115_at l i hi
      obtain ⟨q, hq, hql⟩ := cutType_f l[i].f0 l[i].f1
      obtain ⟨r, e, hr⟩ := ih (i + 1) (acc ++ [(⟨l[i].f0, q⟩ : S115)]) (by omega) (by omega) (by simp only [List.length_append, List.length_cons, List.length_nil]; omega) (fun t ht => by
        rcases List.mem_append.1 ht with ht | ht
        · exact h4 t ht
        · rw [List.mem_singleton] at ht; rw [ht]; show q.length ≤ 100000; omega)
      refine ⟨r, Ev.step (fun k => ?_) e, hr⟩
      simp only [fluxionref08_CutTypes.l0]
      rw [if_pos (by omega), if_pos (by omega), if_pos (by omega), hrd]
      refine bind_of hq ?_
      rw [if_pos (by omega), w64s (by omega)]
  exact hL _ 0 [] rfl (Nat.zero_le _) (Nat.zero_le _) (fun t h => by cases h)
theorem cutRat_f (x : S61) : ∃ (p q : List Int) (u : Int), fluxionref08_CutRat.f x.f0 x.f1 x.f2 x.f3 260 = some (x.f0, x.f1, p, q, u) ∧ p.length ≤ 130 ∧ q.length ≤ 130 := by
  have h130 : mn 130 (mx 2 (wrap64 (Int.tdiv 260 2))) = ((130 : Nat) : Int) := by
    rw [show Int.tdiv 260 2 = 130 from rfl, w64 (by omega) (by omega)]
    unfold mx mn
    repeat (split)
    all_goals omega
  refine ⟨x.f2.take (min x.f2.length 130), x.f3.take (min x.f3.length 130), wrap64 (((x.f2.take (min x.f2.length 130)).length : Int) + ((x.f3.take (min x.f3.length 130)).length : Int)), ?_, by rw [List.length_take]; omega, by rw [List.length_take]; omega⟩
  unfold fluxionref08_CutRat.f
  refine bind_of (x := ([] : List Int)) rfl ?_
  rw [h130, mn_nat, mn_nat, if_pos (by omega), if_pos (by omega), Int.toNat_natCast, Int.toNat_natCast, if_pos (by rw [List.length_take]; show 0 + _ < _; omega), List.nil_append]
  refine bind_of (x := x.f2.take (min x.f2.length 130)) rfl ?_
  refine bind_of (x := ([] : List Int)) rfl ?_
  rw [if_pos (by omega), if_pos (by omega), if_pos (by rw [List.length_take]; show 0 + _ < _; omega), List.nil_append]
  exact bind_of (x := x.f3.take (min x.f3.length 130)) rfl rfl
theorem ev_Cut (l : List S50) : ∀ (d i m : Nat) (acc : List S50), min l.length 34 - i = d → i ≤ min l.length 34 → m ≤ 400 → acc.length ≤ i → (∀ t ∈ acc, Sh50 t) →
    ∃ r : List S50, Ev (fun k => fluxionref29_Cut.l0 k l (m : Int) acc (i : Int)) r ∧ r.length ≤ 100000 ∧ ∀ t ∈ r, Sh50 t := by
  intro d
  induction d with
  | zero =>
    intro i m acc h1 h2 hm h3 h4
    refine ⟨acc, ⟨2, fun k hk => ?_⟩, by omega, h4⟩
    obtain ⟨j, rfl⟩ : ∃ j, k = j + 1 + 1 := ⟨k - 2, by omega⟩
    have hj1 : fluxionref29_Cut.j1 (j + 1) l (m : Int) acc (i : Int) false = some acc := by
      simp only [fluxionref29_Cut.j1]
      rw [if_neg (by decide)]
    show fluxionref29_Cut.l0 (j + 1 + 1) l (m : Int) acc (i : Int) = some acc
    simp only [fluxionref29_Cut.l0]
    by_cases h : (i : Int) < (l.length : Int)
    · rw [if_pos h, decide_eq_false (by omega)]; exact hj1
    · rw [if_neg h]; exact hj1
  | succ d ih =>
    intro i m acc h1 h2 hm h3 h4
    have hi : i < l.length := by omega
    have hrd := rd50_at l i hi
    generalize l[i] = x at *
    obtain ⟨ps, ⟨K1, e1⟩, hps, hps2⟩ := ev_cutTypes x.f1
    obtain ⟨qs, ⟨K2, e2⟩, hqs, hqs2⟩ := ev_cutTypes x.f2
    dsimp only at e1 e2
    obtain ⟨nm, hnm⟩ : ∃ nm, nm = x.f0.extract 0 (min x.f0.size 26) := ⟨_, rfl⟩
    have hI : ∀ (d2 j n : Nat) (ac : List S63), n = d2 → j + n ≤ 400 → ac.length = j → (∀ t ∈ ac, Sh61 t.f4) →
        ∃ r : List S50, Ev (fun k => fluxionref29_Cut.l1 k l (n : Int) acc (i : Int) (j : Int) x.f0 x.f1 x.f2 x.f3 x.f4 nm ps qs x.f3 ac) r ∧ r.length ≤ 100000 ∧ ∀ t ∈ r, Sh50 t := by
      intro d2
      induction d2 with
      | zero =>
        intro j n ac g1 g2 g3 g4
        subst g1
        obtain ⟨r, e, hr⟩ := ih (i + 1) 0 (acc ++ [(⟨nm, ps, qs, x.f3, ac⟩ : S50)]) (by omega) (by omega) (by omega) (by simp only [List.length_append, List.length_cons, List.length_nil]; omega) (fun t ht => by
          rcases List.mem_append.1 ht with ht | ht
          · exact h4 t ht
          · rw [List.mem_singleton] at ht; rw [ht]; exact ⟨⟨by show ps.length ≤ _; omega, hps2⟩, ⟨by show qs.length ≤ _; omega, hqs2⟩, ⟨by show ac.length ≤ _; omega, g4⟩⟩)
        refine ⟨r, Ev.step (fun k => ?_) e, hr⟩
        simp only [fluxionref29_Cut.l1]
        by_cases h : (j : Int) < (x.f4.length : Int)
        · rw [if_pos h, if_neg (by omega), if_pos (by omega), w64s (by omega)]
        · rw [if_neg h, if_pos (by omega), w64s (by omega)]
      | succ d2 ih2 =>
        intro j n ac g1 g2 g3 g4
        subst g1
        by_cases h : j < x.f4.length
        · have hr4 := rd63_at x.f4 j h
          obtain ⟨p, q, u, hcr, hp, hq⟩ := cutRat_f x.f4[j].f4
          obtain ⟨r, e, hr⟩ := ih2 (j + 1) d2 (ac ++ [(⟨x.f4[j].f0, x.f4[j].f1, x.f4[j].f2, x.f4[j].f3, (⟨x.f4[j].f4.f0, x.f4[j].f4.f1, p, q⟩ : S61)⟩ : S63)]) rfl (by omega) (by simp only [List.length_append, List.length_cons, List.length_nil]; omega) (fun t ht => by
            rcases List.mem_append.1 ht with ht | ht
            · exact g4 t ht
            · rw [List.mem_singleton] at ht; rw [ht]; exact ⟨by show p.length ≤ _; omega, by show q.length ≤ _; omega⟩)
          refine ⟨r, Ev.step (fun k => ?_) e, hr⟩
          simp only [fluxionref29_Cut.l1]
          rw [if_pos (by omega), if_pos (by omega), if_pos (by omega), hr4]
          refine bind_of hcr ?_
          rw [if_pos (by omega), w64s (by omega), w64 (by omega) (by omega), show ((d2 + 1 : Nat) : Int) - 1 = (d2 : Int) from by omega]
        · obtain ⟨r, e, hr⟩ := ih (i + 1) (d2 + 1) (acc ++ [(⟨nm, ps, qs, x.f3, ac⟩ : S50)]) (by omega) (by omega) (by omega) (by simp only [List.length_append, List.length_cons, List.length_nil]; omega) (fun t ht => by
            rcases List.mem_append.1 ht with ht | ht
            · exact h4 t ht
            · rw [List.mem_singleton] at ht; rw [ht]; exact ⟨⟨by show ps.length ≤ _; omega, hps2⟩, ⟨by show qs.length ≤ _; omega, hqs2⟩, ⟨by show ac.length ≤ _; omega, g4⟩⟩)
          refine ⟨r, Ev.step (fun k => ?_) e, hr⟩
          simp only [fluxionref29_Cut.l1]
          rw [if_neg (by omega), if_pos (by omega), w64s (by omega)]
    obtain ⟨r, ⟨K3, e3⟩, hr⟩ := hI m 0 m [] rfl (by omega) rfl (fun t h => by cases h)
    dsimp only at e3
    refine ⟨r, ⟨K1 + K2 + K3 + 2, fun k hk => ?_⟩, hr⟩
    obtain ⟨j, rfl⟩ : ∃ j, k = j + 1 + 1 := ⟨k - 2, by omega⟩
    show fluxionref29_Cut.l0 (j + 1 + 1) l (m : Int) acc (i : Int) = some r
    simp only [fluxionref29_Cut.l0]
    rw [if_pos (by omega), decide_eq_true (by omega)]
    simp only [fluxionref29_Cut.j1]
    rw [if_pos trivial, if_pos (by omega), if_pos (by omega), hrd, show (26 : Int) = ((26 : Nat) : Int) from rfl, mn_nat, if_pos (by omega), if_pos (by omega), Int.toNat_natCast, ← hnm]
    refine bind_of (e1 j (by omega)) ?_
    refine bind_of (e2 j (by omega)) ?_
    exact e3 j (by omega)
theorem ev_cut (l : List S50) : ∃ r : List S50, Ev (fun k => fluxionlaw29_cut.f k l) r ∧ r.length ≤ 100000 ∧ ∀ t ∈ r, Sh50 t := by
  obtain ⟨r, ⟨K, e⟩, hr⟩ := ev_Cut l _ 0 400 [] rfl (Nat.zero_le _) (Nat.le_refl _) (Nat.zero_le _) (fun t h => by cases h)
  exact ⟨r, ⟨K, fun k hk => bind_of (e k hk) rfl⟩, hr⟩
theorem eq115_self (x : S115) : eq115 x x = true := by unfold eq115; simp
theorem eq61_self (x : S61) : eq61 x x = true := by unfold eq61; simp
theorem eq63_self (x : S63) : eq63 x x = true := by unfold eq63; simp [eq61_self]
theorem eq50_self (x : S50) : eq50 x x = true := by
  unfold eq50 eqB
  rw [eqL_self _ (fun t _ => eq115_self t), eqL_self _ (fun t _ => eq115_self t), eqL_self _ (fun t _ => eq63_self t)]
  simp
theorem codeSame_all (halive : Ev (fun k => fluxionlaw29_alive.f k) true) (a b : List S50) : ∃ k, fluxionlaw29_CodeSame.f k a b = some true := by
  obtain ⟨x, ⟨K1, e1⟩, hx, hxs⟩ := ev_cut a
  obtain ⟨y, ⟨K2, e2⟩, hy, hys⟩ := ev_cut b
  obtain ⟨K3, e3⟩ := ev_codeSame x y hx hxs
  obtain ⟨K4, e4⟩ := ev_rSame x y hx hxs
  obtain ⟨K5, e5⟩ := ev_codeSame x x hx hxs
  obtain ⟨K6, e6⟩ := halive
  dsimp only at e1 e2 e3 e4 e5 e6
  rw [eqL_self x (fun t _ => eq50_self t)] at e5
  refine ⟨K1 + K2 + K3 + K4 + K5 + K6, ?_⟩
  generalize hK : K1 + K2 + K3 + K4 + K5 + K6 = K
  unfold fluxionlaw29_CodeSame.f
  refine bind_of (e1 K (by omega)) ?_
  refine bind_of (e2 K (by omega)) ?_
  refine bind_of (e3 K (by omega)) ?_
  refine bind_of (e1 K (by omega)) ?_
  refine bind_of (e2 K (by omega)) ?_
  refine bind_of (e4 K (by omega)) ?_
  rw [if_pos (beq_self_eq_true _)]
  refine bind_of (e1 K (by omega)) ?_
  refine bind_of (e1 K (by omega)) ?_
  refine bind_of (e5 K (by omega)) ?_
  rw [if_pos rfl]
  exact bind_of (e6 K (by omega)) rfl
end Go.Proofs.YtbkknoipgmlcmaaGreatDoor.P

