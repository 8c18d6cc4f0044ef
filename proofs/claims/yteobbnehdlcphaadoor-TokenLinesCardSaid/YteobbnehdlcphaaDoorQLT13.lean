import Derived.Test.YteobbnehdlcphaaDoorQLP13L
import Derived.Test.YteobbnehdlcphaaDoorQLT12
namespace Go.Proofs.YteobbnehdlcphaaDoor.Tok
theorem line_mono (l : Bs) : ∀ d i : Nat, lineAt l i ≤ lineAt l (i + d)
  | 0, i => Nat.le_refl _
  | d + 1, i => by
    have ih := line_mono l d i
    rw [← Nat.add_assoc]
    show _ ≤ (if l[i + d]? = some 10 then lineAt l (i + d) + 1 else lineAt l (i + d))
    split <;> omega
theorem line_same (l : Bs) : ∀ d i : Nat, lineAt l i = lineAt l (i + d) → colAt l (i + d) = colAt l i + d
  | 0, i, _ => rfl
  | d + 1, i, h => by
    have hm := line_mono l d i
    rw [← Nat.add_assoc] at h ⊢
    have h2 : lineAt l i = (if l[i + d]? = some 10 then lineAt l (i + d) + 1 else lineAt l (i + d)) := h
    show (if l[i + d]? = some 10 then 1 else colAt l (i + d) + 1) = _
    by_cases h10 : l[i + d]? = some 10
    · rw [if_pos h10] at h2; omega
    · rw [if_neg h10] at h2 ⊢
      have ih := line_same l d i h2
      omega
end Go.Proofs.YteobbnehdlcphaaDoor.Tok
namespace Go.Proofs.YteobbnehdlcphaaDoor.P
open Go.RowKit Go.Proofs.YteobbnehdlcphaaDoorW.PrintWords Go.Proofs.YteobbnehdlcphaaDoorW.PrintLast Go.Proofs.YteobbnehdlcphaaDoorW.PrintMore
open Go.Proofs.YteobbnehdlcphaaDoor
theorem u64_range (x : Int) : 0 ≤ IntKind.u64.wrap x ∧ IntKind.u64.wrap x < 18446744073709551616 := by
  rw [IntKind.wrap_u64]
  omega
theorem u64_same {x : Int} (h0 : 0 ≤ x) (h1 : x < 18446744073709551616) : IntKind.u64.wrap x = x := by
  rw [IntKind.wrap_u64]
  omega
theorem tmod_small (x : Int) (n : Nat) (hn : n ≤ 20000) : ∃ m : Nat, wrap64 (Int.tmod (IntKind.u64.wrap x) ((n : Int) + 1)) = (m : Int) ∧ m ≤ n := by
  obtain ⟨h0, h1⟩ := u64_range x
  have h2 : Int.tmod (IntKind.u64.wrap x) ((n : Int) + 1) = (IntKind.u64.wrap x) % ((n : Int) + 1) := Int.tmod_eq_emod_of_nonneg h0
  have h3 := Int.emod_nonneg (IntKind.u64.wrap x) (show (n : Int) + 1 ≠ 0 by omega)
  have h4 := Int.emod_lt_of_pos (IntKind.u64.wrap x) (show (0 : Int) < (n : Int) + 1 by omega)
  rw [h2, w64 (by omega) (by omega)]
  exact ⟨((IntKind.u64.wrap x) % ((n : Int) + 1)).toNat, by omega, by omega⟩
attribute [local irreducible] bt
theorem ev_feeds (s : ByteArray) (hs : s.size ≤ 20000) (lo : Nat) (hlo : lo ≤ s.size) : ∀ (d i : Nat), s.size - i = d → i ≤ s.size →
    Ev (fun k => fluxionlaw04_TokenLines.l0 k s (lo : Int) ((Tok.colAt s.data.toList lo : Nat) : Int) ((Tok.lineAt s.data.toList s.size : Nat) : Int) (((Tok.lineAt s.data.toList i : Nat) : Int) - 1) (i : Int)) true := by
  intro d
  induction d with
  | zero =>
    intro i h1 h2
    obtain rfl : i = s.size := by omega
    have hlr := Tok.line_pos s.data.toList s.size
    obtain ⟨K, e⟩ := ev_alive
    dsimp only at e
    refine ⟨K + 1, fun k hk => ?_⟩
    obtain ⟨m, rfl⟩ : ∃ m, k = m + 1 := ⟨k - 1, by omega⟩
    simp only [fluxionlaw04_TokenLines.l0]
    rw [if_neg (by omega), if_pos (by rw [w64 (by omega) (by omega)]; omega)]
    cases lo with
    | zero =>
      rw [if_pos (by rfl)]
      exact bind_of (e m (by omega)) rfl
    | succ n =>
      obtain ⟨c, hc, hb⟩ := bt_at (s := s) (i := n) (by omega)
      have hcr := Tok.col_pos s.data.toList n
      have hw : wrap64 (((n + 1 : Nat) : Int) - 1) = (n : Int) := by rw [w64 (by omega) (by omega)]; omega
      rw [if_neg (by omega), hw, if_pos (by omega), if_pos (by omega), hb]
      unfold Tok.colAt
      rw [hc]
      have hten := ten c
      have hgoal : ((((if some c = some (10 : UInt8) then 1 else Tok.colAt s.data.toList n + 1 : Nat) : Int) == 1) == ((c.toNat : Int) == 10)) = true := by
        by_cases h10 : some c = some (10 : UInt8)
        · rw [if_pos h10, show ((c.toNat : Int) == 10) = true from beq_iff_eq.2 (hten.2 h10)]
          rfl
        · rw [if_neg h10, show ((c.toNat : Int) == 10) = false from beq_eq_false_iff_ne.2 (fun h => h10 (hten.1 h)), show (((Tok.colAt s.data.toList n + 1 : Nat) : Int) == 1) = false from beq_eq_false_iff_ne.2 (by omega)]
          rfl
      rw [if_pos hgoal]
      exact bind_of (e m (by omega)) rfl
  | succ d ih =>
    intro i h1 h2
    have h3 := ih (i + 1) (by omega) (by omega)
    have hlr := Tok.line_pos s.data.toList i
    obtain ⟨c, hc, hb⟩ := bt_at (s := s) (i := i) (by omega)
    have hl1 : Tok.lineAt s.data.toList (i + 1) = if some c = some (10 : UInt8) then Tok.lineAt s.data.toList i + 1 else Tok.lineAt s.data.toList i := by
      rw [← hc]; rfl
    rw [hl1] at h3
    refine Ev.step (fun k => ?_) h3
    simp only [fluxionlaw04_TokenLines.l0]
    rw [if_pos (by omega), if_pos (by omega), hb]
    by_cases h10 : some c = some (10 : UInt8)
    · rw [if_pos ((ten c).2 h10), if_pos h10, w64 (by omega) (by omega), w64 (by omega) (by omega)]
      congr 1
      omega
    · rw [if_neg (fun h => h10 ((ten c).1 h)), if_neg h10, w64 (by omega) (by omega)]
      rfl
theorem ev_linesJ (s : ByteArray) (hs : s.size ≤ 20000) (lo hi : Nat) (h1 : lo ≤ hi) (h2 : hi ≤ s.size) : Ev (fun k => fluxionlaw04_TokenLines.j0 k s (lo : Int) (hi : Int)) true := by
  obtain ⟨K1, e1⟩ := ev_Line s (lo : Int)
  obtain ⟨K2, e2⟩ := ev_Line s (hi : Int)
  obtain ⟨K3, e3⟩ := ev_Line s (s.size : Int)
  obtain ⟨K4, e4⟩ := ev_feeds s hs lo (by omega) s.size 0 rfl (Nat.zero_le _)
  dsimp only at e1 e2 e3 e4
  unfold lineS at e1 e2 e3
  rw [if_neg (by omega), if_neg (by omega), Int.toNat_natCast] at e1 e2 e3
  obtain ⟨d1, hd1⟩ : ∃ d, hi = lo + d := ⟨hi - lo, by omega⟩
  obtain ⟨d2, hd2⟩ : ∃ d, s.size = hi + d := ⟨s.size - hi, by omega⟩
  have m1 := Tok.line_mono s.data.toList d1 lo
  have m2 := Tok.line_mono s.data.toList d2 hi
  have ms := Tok.line_same s.data.toList d1 lo
  rw [← hd1] at m1 ms
  rw [← hd2] at m2
  have p1 := Tok.line_pos s.data.toList lo
  have p2 := Tok.col_pos s.data.toList lo
  have p3 := Tok.col_pos s.data.toList hi
  have p4 := Tok.col_pos s.data.toList s.size
  generalize Tok.lineAt s.data.toList hi = lh at *
  generalize Tok.colAt s.data.toList hi = ch at *
  have hlz : ((Tok.lineAt s.data.toList 0 : Nat) : Int) - 1 = 0 := rfl
  rw [hlz] at e4
  have hj1 : ∀ m, K4 ≤ m → fluxionlaw04_TokenLines.j1 (m + 1) s (lo : Int) ((Tok.colAt s.data.toList lo : Nat) : Int) ((Tok.lineAt s.data.toList s.size : Nat) : Int) false = some true := by
    intro m hm
    simp only [fluxionlaw04_TokenLines.j1]
    rw [if_neg (by decide)]
    exact e4 m hm
  refine ⟨K1 + K2 + K3 + K4 + 2, fun k hk => ?_⟩
  obtain ⟨m, rfl⟩ : ∃ m, k = m + 1 + 1 := ⟨k - 2, by omega⟩
  simp only [fluxionlaw04_TokenLines.j0]
  refine bind_of (e1 _ (by omega)) ?_
  refine bind_of (e2 _ (by omega)) ?_
  refine bind_of (e3 _ (by omega)) ?_
  dsimp only
  rw [if_pos rfl, if_pos rfl, if_pos rfl, if_neg (by omega), if_neg (by omega), if_neg (by omega), if_neg (by omega), if_neg (by omega)]
  have hj := hj1 m (by omega)
  by_cases heq : Tok.lineAt s.data.toList lo = lh
  · rw [if_pos (by omega)]
    have hc := ms heq
    have hf : (wrap64 ((ch : Int) - ((Tok.colAt s.data.toList lo : Nat) : Int)) != wrap64 ((hi : Int) - (lo : Int))) = false := by
      rw [w64 (by omega) (by omega), w64 (by omega) (by omega)]
      have : (ch : Int) - ((Tok.colAt s.data.toList lo : Nat) : Int) = (hi : Int) - (lo : Int) := by omega
      rw [this]
      exact bne_self_eq_false _
    rw [hf]
    exact hj
  · rw [if_neg (by omega)]
    exact hj
theorem tokenLines_all (a0 : ByteArray) (a1 a2 : Int) : ∃ k, fluxionlaw04_TokenLines.f k a0 a1 a2 = some true := by
  have hm : mn (a0.size : Int) 20000 = ((min a0.size 20000 : Nat) : Int) := by unfold mn; split <;> omega
  have hsz : (a0.extract 0 (min a0.size 20000)).size ≤ 20000 := by rw [← len_eq, ext_upto, List.length_take]; omega
  have hwr : IntKind.u64.wrap (wrap64 (((a0.extract 0 (min a0.size 20000)).size : Int) + 1)) = ((a0.extract 0 (min a0.size 20000)).size : Int) + 1 := by
    rw [w64 (by omega) (by omega), u64_same (by omega) (by omega)]
  obtain ⟨x, hx, hxl⟩ := tmod_small a1 _ hsz
  obtain ⟨y, hy, hyl⟩ := tmod_small a2 _ hsz
  have key : ∃ k, (if (x : Int) > (y : Int) then fluxionlaw04_TokenLines.j0 k (a0.extract 0 (min a0.size 20000)) (y : Int) (x : Int) else fluxionlaw04_TokenLines.j0 k (a0.extract 0 (min a0.size 20000)) (x : Int) (y : Int)) = some true := by
    by_cases hxy : (x : Int) > (y : Int)
    · obtain ⟨K, e⟩ := ev_linesJ _ hsz y x (by omega) hxl
      exact ⟨K, by rw [if_pos hxy]; exact e K (Nat.le_refl _)⟩
    · obtain ⟨K, e⟩ := ev_linesJ _ hsz x y (by omega) hyl
      exact ⟨K, by rw [if_neg hxy]; exact e K (Nat.le_refl _)⟩
  obtain ⟨k, hk⟩ := key
  refine ⟨k, ?_⟩
  unfold fluxionlaw04_TokenLines.f
  rw [hm, Int.toNat_natCast, hwr, hx, hy, if_pos (by omega), if_pos (by omega), if_neg (by omega)]
  exact hk
end Go.Proofs.YteobbnehdlcphaaDoor.P

