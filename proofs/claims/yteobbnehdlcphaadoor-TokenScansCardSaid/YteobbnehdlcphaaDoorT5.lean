/- The program's Scan comes to the plain one. -/
import Derived.Test.YteobbnehdlcphaaDoorP3
import Derived.Test.YteobbnehdlcphaaDoorP4
import Derived.Test.YteobbnehdlcphaaDoorT3
import Derived.Test.YteobbnehdlcphaaDoorT4
namespace Go.Proofs.YteobbnehdlcphaaDoor.Tok
def consT (x : T) (r : List T × Int × Int) : List T × Int × Int := if r.2.2 = 0 then (x :: r.1, r.2.1, 0) else ([], r.2.1, r.2.2)
theorem consT_of (x : T) (r : List T × Int × Int) : (match r with
      | (ts, p, 0) => (x :: ts, p, 0)
      | (_, p, e) => ([], p, e)) = consT x r := by
  rcases r with ⟨ts, p, e⟩
  unfold consT
  by_cases h : e = 0
  · subst h; rfl
  · rw [if_neg h]
    split
    · rename_i heq; injection heq with _ heq; injection heq with _ heq; exact absurd heq h
    · rename_i heq; injection heq with _ heq; injection heq with h1 h2; subst h1; subst h2; rfl
theorem scanF_eq (n : Nat) (l : Bs) (a : Nat) : scanF (n + 1) l a =
    if skip l = [] then ([⟨5, [], a + l.length⟩], 0, 0)
    else if (next (skip l)).1 = 0 then ([], ((a + (l.length - (skip l).length) : Nat) : Int), 5)
    else if (next (skip l)).2.length > 24 ∧ (next (skip l)).1 = 1 then ([], ((a + (l.length - (skip l).length) : Nat) : Int), 13)
    else consT ⟨(next (skip l)).1, (next (skip l)).2, a + (l.length - (skip l).length)⟩ (scanF n ((skip l).drop (next (skip l)).2.length) (a + (l.length - (skip l).length) + (next (skip l)).2.length)) := by
  rw [← consT_of]
  rfl
theorem scanG_eq (l : Bs) (a : Nat) (h : skip l = l) (hne : l ≠ []) : scanG l a =
    if (next l).1 = 0 then ([], (a : Int), 5)
    else if (next l).2.length > 24 ∧ (next l).1 = 1 then ([], (a : Int), 13)
    else consT ⟨(next l).1, (next l).2, a⟩ (scanG (l.drop (next l).2.length) (a + (next l).2.length)) := by
  rw [← consT_of]
  exact scanG_stay l a h hne
end Go.Proofs.YteobbnehdlcphaaDoor.Tok
namespace Go.Proofs.YteobbnehdlcphaaDoor.P
open Go.RowKit Go.Proofs.YteobbnehdlcphaaDoorW.PrintWords Go.Proofs.YteobbnehdlcphaaDoorW.PrintLast Go.Proofs.YteobbnehdlcphaaDoorW.PrintMore
open Go.Proofs.YteobbnehdlcphaaDoor
attribute [local irreducible] bt
def res (acc : List S44) (r : List Tok.T × Int × Int) : List S44 × Int × Int := if r.2.2 = 0 then (acc ++ r.1.map toS, r.2.1, 0) else ([], r.2.1, r.2.2)
theorem res_cons (acc : List S44) (x : Tok.T) (r : List Tok.T × Int × Int) : res acc (Tok.consT x r) = res (acc ++ [toS x]) r := by
  unfold res Tok.consT
  by_cases h : r.2.2 = 0
  · simp only [if_pos h, if_true, List.map_cons, List.append_assoc, List.singleton_append]
  · simp only [if_neg h]
theorem acc_le {α : Type} {l : List α} {x : α} {i j n : Nat} (h : l.length ≤ i) (hij : i ≤ j) (hn : 0 < n) : (l ++ [x]).length ≤ j + n := by
  simp only [List.length_append, List.length_cons, List.length_nil]; omega
theorem aux_lt2 {S i j t n : Nat} (h : S - i < n + 1) (hij : i ≤ j) (hj : j < S) (ht : 0 < t) : S - (j + t) < n := by omega
theorem acc_out {α : Type} {l : List α} {i S : Nat} (h : l.length ≤ i) (hi : i ≤ S) (hS : S ≤ 20000) : l.length < 4398046511104 := by omega
theorem ev_scan (s : ByteArray) (hs : s.size ≤ 20000) : ∀ (n i : Nat) (acc : List S44), s.size - i < n → i ≤ s.size → acc.length ≤ i →
    Ev (fun k => token_Scan.l0 k s acc (i : Int)) (res acc (Tok.scanF n (s.data.toList.drop i) i)) := by
  have hsm : Sm s := Nat.le_trans hs (by decide)
  intro n
  induction n with
  | zero => intro i acc h; omega
  | succ n ih =>
    intro i acc h1 h2 h3
    have hL : (s.data.toList.drop i).length = s.size - i := by rw [List.length_drop, len_eq]
    obtain ⟨K1, e1⟩ := ev_skip0 (s.extract i s.size) (ext_sm hsm i)
    dsimp only at e1
    rw [ext_from, ext_size] at e1
    have hsl := Tok.skip_le (s.data.toList.drop i)
    have hsd := Tok.skip_drop (s.data.toList.drop i)
    rw [hL] at hsl hsd
    rw [List.drop_drop] at hsd
    rw [Tok.scanF_eq, hL]
    have hout : acc.length < 4398046511104 := acc_out h3 h2 hs
    have wj : wrap64 ((i : Int) + ((s.size - i - (Tok.skip (s.data.toList.drop i)).length : Nat) : Int)) = ((i + (s.size - i - (Tok.skip (s.data.toList.drop i)).length) : Nat) : Int) := by rw [w64 (by omega) (by omega)]; omega
    have hij : i ≤ i + (s.size - i - (Tok.skip (s.data.toList.drop i)).length) := Nat.le_add_right _ _
    have hjle : i + (s.size - i - (Tok.skip (s.data.toList.drop i)).length) ≤ s.size := by omega
    have hjlen : (Tok.skip (s.data.toList.drop i)).length = s.size - (i + (s.size - i - (Tok.skip (s.data.toList.drop i)).length)) := by omega
    generalize hsk : Tok.skip (s.data.toList.drop i) = l at *
    generalize i + (s.size - i - l.length) = j at *
    have Wj := Aside0.mk wj
    clear wj
    by_cases hn : l = []
    · rw [if_pos hn]
      have hj : j = s.size := by rw [hn] at hjlen; simp only [List.length_nil] at hjlen; omega
      refine ⟨K1 + 1, fun k hk => ?_⟩
      obtain ⟨m, rfl⟩ : ∃ m, k = m + 1 := ⟨k - 1, by omega⟩
      simp only [token_Scan.l0]
      rw [if_pos (by omega), if_pos (by omega), Int.toNat_natCast]
      refine bind_of (e1 m (by omega)) ?_
      rw [Wj.out, if_pos (by omega), if_pos hout]
      have : i + (s.size - i) = j := by omega
      rw [this]
      rfl
    · rw [if_neg hn]
      have hlpos : 0 < l.length := List.length_pos_iff.2 hn
      have hjl : j < s.size := by omega
      obtain ⟨K2, e2⟩ := ev_next (s.extract j s.size) (ext_sm hsm j) (by rw [ext_from, hsd]; exact hn)
      dsimp only at e2
      rw [ext_from, hsd] at e2
      have hnl := Tok.next_len_le l
      have hnt := Tok.next_text l
      generalize Tok.next l = nx at *
      obtain ⟨nk, nt⟩ := nx
      dsimp only at e2 hnl hnt ⊢
      by_cases hk0 : nk = 0
      · rw [if_pos hk0]
        refine ⟨K1 + K2 + 1, fun k hk => ?_⟩
        obtain ⟨m, rfl⟩ : ∃ m, k = m + 1 := ⟨k - 1, by omega⟩
        simp only [token_Scan.l0]
        rw [if_pos (by omega), if_pos (by omega), Int.toNat_natCast]
        refine bind_of (e1 m (by omega)) ?_
        rw [Wj.out, if_neg (by omega), if_pos (by omega), if_pos (by omega), Int.toNat_natCast]
        refine bind_of (e2 m (by omega)) ?_
        dsimp only
        rw [if_pos hk0]
        rfl
      · rw [if_neg hk0]
        have htpos := (hnt hk0).2
        have hext := (hnt hk0).1
        by_cases hbig : nt.length > 24 ∧ nk = 1
        · rw [if_pos hbig]
          refine ⟨K1 + K2 + 1, fun k hk => ?_⟩
          obtain ⟨m, rfl⟩ : ∃ m, k = m + 1 := ⟨k - 1, by omega⟩
          simp only [token_Scan.l0]
          rw [if_pos (by omega), if_pos (by omega), Int.toNat_natCast]
          refine bind_of (e1 m (by omega)) ?_
          rw [Wj.out, if_neg (by omega), if_pos (by omega), if_pos (by omega), Int.toNat_natCast]
          refine bind_of (e2 m (by omega)) ?_
          dsimp only
          rw [if_neg hk0, toB_size, if_pos (by omega), if_pos hbig.2]
          rfl
        · rw [if_neg hbig, res_cons]
          obtain ⟨K3, e3⟩ := ih (j + nt.length) (acc ++ [toS ⟨nk, nt, j⟩]) (aux_lt2 h1 hij hjl htpos) (by omega) (acc_le h3 hij htpos)
          dsimp only at e3
          rw [← List.drop_drop, hsd] at e3
          have wk : wrap64 ((j : Int) + (nt.length : Int)) = ((j + nt.length : Nat) : Int) := by rw [w64 (by omega) (by omega)]; omega
          have Wk := Aside0.mk wk
          clear wk
          refine ⟨K1 + K2 + K3 + 1, fun k hk => ?_⟩
          obtain ⟨m, rfl⟩ : ∃ m, k = m + 1 := ⟨k - 1, by omega⟩
          simp only [token_Scan.l0]
          rw [if_pos (by omega), if_pos (by omega), Int.toNat_natCast]
          refine bind_of (e1 m (by omega)) ?_
          rw [Wj.out, if_neg (by omega), if_pos (by omega), if_pos (by omega), Int.toNat_natCast]
          refine bind_of (e2 m (by omega)) ?_
          dsimp only
          rw [if_neg hk0, toB_size, Wk.out]
          have e4 := e3 m (by omega)
          unfold toS at e4 ⊢
          by_cases hb : nt.length > 24
          · rw [if_pos (by omega), if_neg (fun h => hbig ⟨hb, h⟩), if_pos hout]; exact e4
          · rw [if_neg (by omega), if_pos hout]; exact e4
theorem ev_Scan (s : ByteArray) (hs : s.size ≤ 20000) : Ev (fun k => token_Scan.f k s) (res [] (Tok.scanG s.data.toList 0)) := by
  obtain ⟨K, e⟩ := ev_scan s hs (s.data.toList.length + 1) 0 [] (by rw [len_eq]; omega) (Nat.zero_le _) (Nat.zero_le _)
  dsimp only at e
  rw [List.drop_zero] at e
  refine ⟨K, fun k hk => ?_⟩
  show token_Scan.f k s = _
  unfold token_Scan.f
  rw [if_neg (by omega)]
  exact e k hk
theorem Scan_long (s : ByteArray) (hs : ¬ s.size ≤ 20000) (k : Nat) : token_Scan.f k s = some (([] : List S44), 0, 3) := by
  unfold token_Scan.f
  rw [if_pos (by omega)]
end Go.Proofs.YteobbnehdlcphaaDoor.P
