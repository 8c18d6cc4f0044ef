import Derived.Test.YteobbnehdlcphaaDoorQJP0
import Derived.Test.YteobbnehdlcphaaDoorQJP6
import Derived.Test.YteobbnehdlcphaaDoorQJP7
import Derived.Test.YteobbnehdlcphaaDoorQJTB
import Derived.Test.YteobbnehdlcphaaDoorQJTA
namespace Go.Proofs.YteobbnehdlcphaaDoor.P
open Go.RowKit Go.Proofs.YteobbnehdlcphaaDoorW.PrintWords Go.Proofs.YteobbnehdlcphaaDoorW.PrintLast Go.Proofs.YteobbnehdlcphaaDoorW.PrintMore
open Go.Proofs.YteobbnehdlcphaaDoor
attribute [local irreducible] bt
theorem rletter_f (c : UInt8) : fluxionref04_letter.f (c.toNat : Int) = some (Tok.isLetter c) := letter_f c
theorem rdigit_f (c : UInt8) : fluxionref04_digit.f (c.toNat : Int) = some (Tok.isDigit c) := digit_f c
theorem drop_succ {α : Type} {l r : List α} {i : Nat} {c : α} (h : l.drop i = c :: r) : l.drop (i + 1) = r := by rw [← List.drop_drop, h]; rfl
theorem ev_rname1 (s : ByteArray) (hs : Sm s) (a : Nat) : ∀ (d i : Nat), s.size - (a + i) = d → a + i ≤ s.size → 0 < i →
    Ev (fun k => fluxionref04_name.l0 k s (a : Int) (i : Int)) ((i + Tok.wl Tok.isIn (s.data.toList.drop (a + i)) : Nat) : Int) := by
  have hs' : s.size ≤ 4611686018427387904 := hs
  intro d
  induction d with
  | zero =>
    intro i h1 h2 h3
    have w0 : wrap64 ((a : Int) + (i : Int)) = ((a + i : Nat) : Int) := by rw [w64 (by omega) (by omega)]; omega
    refine Ev.step (f := fun _ => some (i : Int)) (fun k => by simp only [fluxionref04_name.l0]; rw [w0, if_neg (by omega)]) ?_
    rw [List.drop_of_length_le (by rw [len_eq]; omega), Tok.wl_nil]
    exact Ev.now _
  | succ d ih =>
    intro i h1 h2 h3
    have w0 : wrap64 ((a : Int) + (i : Int)) = ((a + i : Nat) : Int) := by rw [w64 (by omega) (by omega)]; omega
    have w1 : wrap64 ((i : Int) + 1) = ((i + 1 : Nat) : Int) := by rw [w64 (by omega) (by omega)]; rfl
    cases hd : s.data.toList.drop (a + i) with
    | nil => have := drop_nil_of hd h2; omega
    | cons c r =>
      obtain ⟨hb, hi⟩ := bt_of hd
      have hr : s.data.toList.drop (a + (i + 1)) = r := drop_succ hd
      have stop : Tok.isIn c = false → Ev (fun k => some (i : Int)) ((i + Tok.wl Tok.isIn (c :: r) : Nat) : Int) := fun h => by
        rw [Tok.wl_neg r h]; exact Ev.now _
      have go : Tok.isIn c = true → Ev (fun k => fluxionref04_name.l0 k s (a : Int) ((i + 1 : Nat) : Int)) ((i + Tok.wl Tok.isIn (c :: r) : Nat) : Int) := fun h => by
        have h3 := ih (i + 1) (by omega) (by omega) (by omega)
        rw [hr] at h3
        rw [Tok.wl_pos r h, show i + (Tok.wl Tok.isIn r + 1) = i + 1 + Tok.wl Tok.isIn r by omega]
        exact h3
      have b95 : ((c.toNat : Int) = 95) ↔ c = 95 := byte_ne c 95 (by decide)
      unfold Tok.isIn at stop go
      cases hl : Tok.isLetter c with
      | true =>
        refine Ev.step (f := fun k => fluxionref04_name.l0 k s (a : Int) ((i + 1 : Nat) : Int)) (fun k => ?_) (go (by rw [hl]; rfl))
        simp only [fluxionref04_name.l0]
        rw [w0, w1, if_pos (by omega), if_pos (by omega), hb]
        exact bind_of (rletter_f c) (by rw [hl, if_pos rfl])
      | false =>
        cases hdg : Tok.isDigit c with
        | true =>
          refine Ev.step (f := fun k => fluxionref04_name.l0 k s (a : Int) ((i + 1 : Nat) : Int)) (fun k => ?_) (go (by rw [hl, hdg]; rfl))
          simp only [fluxionref04_name.l0]
          rw [w0, w1, if_pos (by omega), if_pos (by omega), hb]
          refine bind_of (rletter_f c) ?_
          rw [hl, if_neg (by decide), if_pos (by omega)]
          exact bind_of (rdigit_f c) (by rw [hdg, if_pos rfl])
        | false =>
          by_cases h95 : c = 95
          · refine Ev.step (f := fun k => fluxionref04_name.l0 k s (a : Int) ((i + 1 : Nat) : Int)) (fun k => ?_) (go (by rw [hl, hdg, h95]; rfl))
            simp only [fluxionref04_name.l0]
            rw [w0, w1, if_pos (by omega), if_pos (by omega), hb]
            refine bind_of (rletter_f c) ?_
            rw [hl, if_neg (by decide), if_pos (by omega)]
            exact bind_of (rdigit_f c) (by rw [hdg, if_neg (by decide), if_pos (b95.2 h95)])
          · refine Ev.step (f := fun k => some (i : Int)) (fun k => ?_) (stop (by rw [hl, hdg, beq_eq_false_iff_ne.2 h95]; rfl))
            simp only [fluxionref04_name.l0]
            rw [w0, if_pos (by omega), if_pos (by omega), hb]
            refine bind_of (rletter_f c) ?_
            rw [hl, if_neg (by decide), if_pos (by omega)]
            exact bind_of (rdigit_f c) (by rw [hdg, if_neg (by decide), if_neg (fun h => h95 (b95.1 h))])
theorem ev_rname (s : ByteArray) (hs : Sm s) (a : Nat) (ha : a ≤ s.size) : Ev (fun k => fluxionref04_name.f k s (a : Int)) ((Tok.nameN (s.data.toList.drop a) : Nat) : Int) := by
  have hs' : s.size ≤ 4611686018427387904 := hs
  have w0 : wrap64 ((a : Int) + 0) = (a : Int) := by rw [w64 (by omega) (by omega)]; omega
  unfold Tok.nameN
  cases hd : s.data.toList.drop a with
  | nil =>
    have := drop_nil_of hd ha
    refine Ev.step (f := fun _ => some (0 : Int)) (fun k => ?_) (Ev.now _)
    show fluxionref04_name.l0 (k + 1) s (a : Int) 0 = _
    simp only [fluxionref04_name.l0]
    rw [w0, if_neg (by omega)]
  | cons c r =>
    obtain ⟨hb, hi⟩ := bt_of hd
    show Ev _ ((if Tok.isLetter c = true then Tok.wl Tok.isIn (c :: r) else 0 : Nat) : Int)
    cases hl : Tok.isLetter c with
    | true =>
      have h1 := ev_rname1 s hs a (s.size - (a + 1)) 1 rfl (by omega) (by omega)
      rw [drop_succ hd] at h1
      rw [if_pos rfl, Tok.wl_pos r (Tok.letter_in hl), Nat.add_comm]
      refine Ev.step (fun k => ?_) h1
      show fluxionref04_name.l0 (k + 1) s (a : Int) 0 = _
      simp only [fluxionref04_name.l0]
      rw [w0, if_pos (by omega), if_pos (by omega), hb]
      exact bind_of (rletter_f c) (by rw [hl, if_pos rfl, w64 (by omega) (by omega)]; rfl)
    | false =>
      rw [if_neg (by decide)]
      refine Ev.step (f := fun _ => some (0 : Int)) (fun k => ?_) (Ev.now _)
      show fluxionref04_name.l0 (k + 1) s (a : Int) 0 = _
      simp only [fluxionref04_name.l0]
      rw [w0, if_pos (by omega), if_pos (by omega), hb]
      exact bind_of (rletter_f c) (by rw [hl, if_neg (by decide), if_neg (by omega)])
theorem ev_rdigits1 (s : ByteArray) (hs : Sm s) (a : Nat) : ∀ (d i : Nat), s.size - (a + i) = d → a + i ≤ s.size →
    Ev (fun k => fluxionref04_digits.l0 k s (a : Int) (i : Int)) ((i + Tok.wl Tok.isDigit (s.data.toList.drop (a + i)) : Nat) : Int) := by
  have hs' : s.size ≤ 4611686018427387904 := hs
  intro d
  induction d with
  | zero =>
    intro i h1 h2
    have w0 : wrap64 ((a : Int) + (i : Int)) = ((a + i : Nat) : Int) := by rw [w64 (by omega) (by omega)]; omega
    refine Ev.step (f := fun _ => some (i : Int)) (fun k => by simp only [fluxionref04_digits.l0]; rw [w0, if_neg (by omega)]) ?_
    rw [List.drop_of_length_le (by rw [len_eq]; omega), Tok.wl_nil]
    exact Ev.now _
  | succ d ih =>
    intro i h1 h2
    have w0 : wrap64 ((a : Int) + (i : Int)) = ((a + i : Nat) : Int) := by rw [w64 (by omega) (by omega)]; omega
    have w1 : wrap64 ((i : Int) + 1) = ((i + 1 : Nat) : Int) := by rw [w64 (by omega) (by omega)]; rfl
    cases hd : s.data.toList.drop (a + i) with
    | nil => have := drop_nil_of hd h2; omega
    | cons c r =>
      obtain ⟨hb, hi⟩ := bt_of hd
      have hr : s.data.toList.drop (a + (i + 1)) = r := drop_succ hd
      cases hl : Tok.isDigit c with
      | true =>
        have h3 := ih (i + 1) (by omega) (by omega)
        rw [hr] at h3
        rw [Tok.wl_pos r hl, show i + (Tok.wl Tok.isDigit r + 1) = i + 1 + Tok.wl Tok.isDigit r by omega]
        refine Ev.step (fun k => ?_) h3
        simp only [fluxionref04_digits.l0]
        rw [w0, w1, if_pos (by omega), if_pos (by omega), hb]
        exact bind_of (rdigit_f c) (by rw [hl, if_pos rfl])
      | false =>
        rw [Tok.wl_neg r hl]
        refine Ev.step (f := fun _ => some (i : Int)) (fun k => ?_) (Ev.now _)
        simp only [fluxionref04_digits.l0]
        rw [w0, if_pos (by omega), if_pos (by omega), hb]
        exact bind_of (rdigit_f c) (by rw [hl, if_neg (by decide)])
theorem ev_rdigits (s : ByteArray) (hs : Sm s) (a : Nat) (ha : a ≤ s.size) : Ev (fun k => fluxionref04_digits.f k s (a : Int)) ((Tok.wl Tok.isDigit (s.data.toList.drop a) : Nat) : Int) := by
  have := ev_rdigits1 s hs a (s.size - (a + 0)) 0 rfl ha
  rw [Nat.zero_add] at this
  exact this
theorem ev_rnumber (s : ByteArray) (hs : Sm s) (a : Nat) (ha : a ≤ s.size) : Ev (fun k => fluxionref04_number.f k s (a : Int)) ((Tok.numN (s.data.toList.drop a) : Nat) : Int) := by
  have hs' : s.size ≤ 4611686018427387904 := hs
  obtain ⟨K1, e1⟩ := ev_rdigits s hs a ha
  dsimp only at e1
  have hw := Tok.wl_le Tok.isDigit (s.data.toList.drop a)
  rw [List.length_drop, len_eq] at hw
  unfold Tok.numN
  generalize hn : Tok.wl Tok.isDigit (s.data.toList.drop a) = n at *
  have w0 : Aside0 (wrap64 ((a : Int) + (n : Int)) = ((a + n : Nat) : Int)) := ⟨by rw [w64 (by omega) (by omega)]; omega⟩
  have stop : ∀ m, fluxionref04_number.j0 (m + 1) s (a : Int) (n : Int) false = some (n : Int) := fun m => by simp only [fluxionref04_number.j0]; rw [if_neg (by decide)]
  have plain : ∀ (K : Nat), (∀ m, K ≤ m → fluxionref04_number.f m s (a : Int) = fluxionref04_number.j0 m s (a : Int) (n : Int) false) → Ev (fun k => fluxionref04_number.f k s (a : Int)) (n : Int) := by
    intro K h
    refine ⟨K + 1, fun k hk => ?_⟩
    obtain ⟨m, rfl⟩ : ∃ m, k = m + 1 := ⟨k - 1, by omega⟩
    show fluxionref04_number.f (m + 1) s (a : Int) = _
    rw [h (m + 1) (by omega), stop]
  by_cases h0 : n > 0
  · rw [List.drop_drop]
    cases hd : s.data.toList.drop (a + n) with
    | nil =>
      have hne : (s.data.toList.drop a)[n]? = none := by
        rw [List.getElem?_eq_none_iff, List.length_drop]; rw [List.drop_eq_nil_iff] at hd; omega
      rw [if_neg (by rw [hne]; simp)]
      have := drop_nil_of hd (by omega)
      refine plain K1 (fun m hm => ?_)
      unfold fluxionref04_number.f
      refine bind_of (e1 m hm) ?_
      rw [if_pos (by omega), w0.out, if_neg (by omega)]
    | cons c r =>
      obtain ⟨hb, hnl⟩ := bt_of hd
      have hat : (s.data.toList.drop a)[n]? = some c := by
        have := List.getElem?_drop (xs := s.data.toList) (i := a + n) (j := 0)
        rw [hd] at this
        rw [List.getElem?_drop]
        simpa using this.symm
      have hr : s.data.toList.drop (a + (n + 1)) = r := drop_succ hd
      by_cases h46 : c = 46
      · have hbt : Aside0 (bt s ((a + n : Nat) : Int) = 46) := ⟨by rw [hb]; exact (byte_ne c 46 (by decide)).2 h46⟩
        subst h46
        obtain ⟨K2, e2⟩ := ev_rdigits s hs (a + (n + 1)) (by omega)
        dsimp only at e2
        rw [hr] at e2
        rw [hr, hat]
        have hw2 := Tok.wl_le Tok.isDigit r
        have hlr : r.length = s.size - (a + (n + 1)) := by rw [← hr, List.length_drop, len_eq]
        generalize Tok.wl Tok.isDigit r = b at *
        have w1 : Aside0 (wrap64 (((a + n : Nat) : Int) + 1) = ((a + (n + 1) : Nat) : Int)) := ⟨by rw [w64 (by omega) (by omega)]; omega⟩
        have w2 : Aside0 (wrap64 (wrap64 ((n : Int) + 1) + (b : Int)) = ((n + 1 + b : Nat) : Int)) := ⟨by rw [w64 (n := (n : Int) + 1) (by omega) (by omega), w64 (by omega) (by omega)]; omega⟩
        refine ⟨K1 + K2 + 1, fun k hk => ?_⟩
        obtain ⟨m, rfl⟩ : ∃ m, k = m + 1 := ⟨k - 1, by omega⟩
        show fluxionref04_number.f (m + 1) s (a : Int) = _
        unfold fluxionref04_number.f
        refine bind_of (e1 (m + 1) (by omega)) ?_
        rw [if_pos (by omega), w0.out, if_pos (by omega), if_pos (by omega), hbt.out]
        simp only [fluxionref04_number.j0]
        rw [if_pos (show ((46 : Int) == 46) = true from rfl), w0.out, w1.out]
        refine bind_of (e2 m (by omega)) ?_
        by_cases hb0 : b > 0
        · rw [if_pos (by omega), if_pos ⟨h0, by trivial, hb0⟩, w2.out]
        · rw [if_neg (by omega), if_neg (by omega)]
      · rw [if_neg (by rw [hat]; simp [h46])]
        have hne : (bt s ((a + n : Nat) : Int) == 46) = false := by rw [hb]; exact beq_eq_false_iff_ne.2 (fun h => h46 ((byte_ne c 46 (by decide)).1 h))
        refine plain K1 (fun m hm => ?_)
        unfold fluxionref04_number.f
        refine bind_of (e1 m hm) ?_
        rw [if_pos (by omega), w0.out, if_pos (by omega), if_pos (by omega), hne]
  · rw [if_neg (by omega)]
    refine plain K1 (fun m hm => ?_)
    unfold fluxionref04_number.f
    refine bind_of (e1 m hm) ?_
    rw [if_neg (by omega)]
theorem prefix_take (a b : Tok.Bs) : (a.take b.length = b) ↔ b.isPrefixOf a = true := by rw [← hasPrefix_list, beq_iff_eq]
theorem ev_rsign1 (s : ByteArray) (hs : Sm s) (a : Nat) (ha : a ≤ s.size) (l : List ByteArray) (hl : l.length ≤ 1000) (hl2 : ∀ t ∈ l, t.size ≤ 1000) : ∀ (d i : Nat), l.length - i = d → i ≤ l.length →
    Ev (fun k => fluxionref04_sign.l0 k s (a : Int) l (i : Int)) ((match (l.drop i).find? (fun t => t.data.toList.isPrefixOf (s.data.toList.drop a)) with | some t => t.size | none => 0 : Nat) : Int) := by
  have hs' : s.size ≤ 4611686018427387904 := hs
  have hL : (s.data.toList.drop a).length = s.size - a := by rw [List.length_drop, len_eq]
  intro d
  induction d with
  | zero =>
    intro i h1 h2
    rw [show l.drop i = [] from List.drop_of_length_le (by omega)]
    refine Ev.step (f := fun _ => some (0 : Int)) (fun k => ?_) (Ev.now _)
    simp only [fluxionref04_sign.l0]
    rw [if_neg (by omega)]
  | succ d ih =>
    intro i h1 h2
    have hi : i < l.length := by omega
    rw [List.drop_eq_getElem_cons hi, List.find?_cons]
    have hrd : rdOf ByteArray.empty l (i : Int) = l[i] := by
      unfold rdOf
      rw [Int.toNat_natCast, List.getD_eq_getElem?_getD, List.getElem?_eq_getElem hi]
      rfl
    have h4 := ih (i + 1) (by omega) (by omega)
    have hsz := hl2 l[i] (List.getElem_mem hi)
    generalize l[i] = t at *
    have w0 : Aside0 (wrap64 ((a : Int) + (t.size : Int)) = ((a + t.size : Nat) : Int)) := ⟨by rw [w64 (by omega) (by omega)]; omega⟩
    have w1 : Aside0 (wrap64 ((i : Int) + 1) = ((i + 1 : Nat) : Int)) := ⟨by rw [w64 (by omega) (by omega)]; rfl⟩
    by_cases hfit : a + t.size ≤ s.size
    · have hex : (s.extract a (a + t.size)).toList = (s.data.toList.drop a).take t.data.toList.length := by
        rw [toList_eq, ext_mid, len_eq, Nat.add_sub_cancel_left]
      cases hp : t.data.toList.isPrefixOf (s.data.toList.drop a) with
      | true =>
        refine Ev.step (f := fun _ => some (t.size : Int)) (fun k => ?_) (Ev.now _)
        simp only [fluxionref04_sign.l0]
        rw [if_pos (by omega), if_pos (by omega), hrd, w0.out, if_pos (by omega), if_pos (by omega), if_pos (by omega), Int.toNat_natCast, Int.toNat_natCast, hex, toList_eq, if_pos ((prefix_take _ _).2 hp)]
      | false =>
        refine Ev.step (fun k => ?_) h4
        simp only [fluxionref04_sign.l0]
        rw [if_pos (by omega), if_pos (by omega), hrd, w0.out, if_pos (by omega), if_pos (by omega), if_pos (by omega), Int.toNat_natCast, Int.toNat_natCast, hex, toList_eq, if_neg (fun h => by rw [(prefix_take _ _).1 h] at hp; cases hp), w1.out]
    · have hp : t.data.toList.isPrefixOf (s.data.toList.drop a) = false := prefix_false _ _ (by rw [hL, len_eq]; omega)
      rw [hp]
      refine Ev.step (fun k => ?_) h4
      simp only [fluxionref04_sign.l0]
      rw [if_pos (by omega), if_pos (by omega), hrd, w0.out, if_neg (by omega), w1.out]
theorem signs_f : fluxionref04_signs.f = some signsL := rfl
theorem words_f : fluxionref04_words.f = some wordsL := rfl
theorem signs_small : ∀ t ∈ signsL, t.size ≤ 1000 := by
  have : (signsL.all fun t => decide (t.size ≤ 1000)) = true := rfl
  intro t ht
  exact of_decide_eq_true (List.all_eq_true.1 this t ht)
theorem signN_eq (x : Tok.Bs) : (match signsL.find? (fun t => t.data.toList.isPrefixOf x) with | some t => t.size | none => 0) = Tok.signN x := by
  unfold Tok.signN Tok.signAt
  rw [← signs_eq, List.find?_map]
  have : ((fun s => List.isPrefixOf s x) ∘ fun t : ByteArray => t.data.toList) = (fun t : ByteArray => t.data.toList.isPrefixOf x) := rfl
  rw [this]
  cases h : signsL.find? (fun t => t.data.toList.isPrefixOf x) with
  | none => rfl
  | some t => exact (len_eq t).symm
theorem ev_rsign (s : ByteArray) (hs : Sm s) (a : Nat) (ha : a ≤ s.size) : Ev (fun k => fluxionref04_sign.f k s (a : Int)) ((Tok.signN (s.data.toList.drop a) : Nat) : Int) := by
  obtain ⟨K, e⟩ := ev_rsign1 s hs a ha signsL (by decide) signs_small signsL.length 0 rfl (Nat.zero_le _)
  dsimp only at e
  rw [List.drop_zero, signN_eq] at e
  refine ⟨K, fun k hk => ?_⟩
  show fluxionref04_sign.f k s (a : Int) = _
  unfold fluxionref04_sign.f
  exact bind_of signs_f (e k hk)
theorem ev_rIsWord1 (l : List ByteArray) (x : ByteArray) (hl : l.length ≤ 1000) : ∀ (d i : Nat), l.length - i = d → i ≤ l.length →
    Ev (fun k => fluxionref04_IsWord.l0 k x l (i : Int)) ((l.drop i).any fun t => x.data.toList == t.data.toList) := by
  intro d
  induction d with
  | zero =>
    intro i h1 h2
    rw [List.drop_of_length_le (by omega)]
    refine Ev.step (f := fun _ => some false) (fun k => ?_) (Ev.now _)
    simp only [fluxionref04_IsWord.l0]
    rw [if_neg (by omega)]
  | succ d ih =>
    intro i h1 h2
    have hi : i < l.length := by omega
    rw [List.drop_eq_getElem_cons hi, List.any_cons]
    have hrd : rdOf ByteArray.empty l (i : Int) = l[i] := by
      unfold rdOf
      rw [Int.toNat_natCast, List.getD_eq_getElem?_getD, List.getElem?_eq_getElem hi]
      rfl
    have h4 := ih (i + 1) (by omega) (by omega)
    have w1 : Aside0 (wrap64 ((i : Int) + 1) = ((i + 1 : Nat) : Int)) := ⟨by rw [w64 (by omega) (by omega)]; rfl⟩
    by_cases hx : x.data.toList = l[i].data.toList
    · rw [show (x.data.toList == l[i].data.toList) = true from beq_iff_eq.2 hx, Bool.true_or]
      refine Ev.step (f := fun _ => some true) (fun k => ?_) (Ev.now _)
      simp only [fluxionref04_IsWord.l0]
      rw [if_pos (by omega), if_pos (by omega), hrd, toList_eq, toList_eq, if_pos hx.symm]
    · rw [show (x.data.toList == l[i].data.toList) = false from beq_eq_false_iff_ne.2 hx, Bool.false_or]
      refine Ev.step (fun k => ?_) h4
      simp only [fluxionref04_IsWord.l0]
      rw [if_pos (by omega), if_pos (by omega), hrd, toList_eq, toList_eq, if_neg (fun h => hx h.symm), w1.out]
theorem ev_rIsWord (x : ByteArray) : Ev (fun k => fluxionref04_IsWord.f k x) (Tok.isWord x.data.toList) := by
  obtain ⟨K, e⟩ := ev_rIsWord1 wordsL x (by decide) wordsL.length 0 rfl (Nat.zero_le _)
  dsimp only at e
  rw [List.drop_zero, any_words] at e
  refine ⟨K, fun k hk => ?_⟩
  show fluxionref04_IsWord.f k x = _
  unfold fluxionref04_IsWord.f
  exact bind_of words_f (e k hk)
end Go.Proofs.YteobbnehdlcphaaDoor.P
namespace Go.Proofs.YteobbnehdlcphaaDoor.P
open Go.RowKit Go.Proofs.YteobbnehdlcphaaDoorW.PrintWords Go.Proofs.YteobbnehdlcphaaDoorW.PrintLast Go.Proofs.YteobbnehdlcphaaDoorW.PrintMore
open Go.Proofs.YteobbnehdlcphaaDoor
attribute [local irreducible] bt
end Go.Proofs.YteobbnehdlcphaaDoor.P

