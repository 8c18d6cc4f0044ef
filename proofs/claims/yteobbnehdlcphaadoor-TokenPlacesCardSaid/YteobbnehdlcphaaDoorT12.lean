/- Lines and columns: the program's Line and the reference's come to the plain ones; the law TokenPlaces. -/
import Derived.Test.YteobbnehdlcphaaDoorP13
import Derived.Test.YteobbnehdlcphaaDoorTE
namespace Go.Proofs.YteobbnehdlcphaaDoor.Tok
def lineAt (l : Bs) : Nat → Nat
  | 0 => 1
  | n + 1 => if l[n]? = some 10 then lineAt l n + 1 else lineAt l n
def colAt (l : Bs) : Nat → Nat
  | 0 => 1
  | n + 1 => if l[n]? = some 10 then 1 else colAt l n + 1
def lastAt (l : Bs) : Nat → Int
  | 0 => -1
  | n + 1 => if l[n]? = some 10 then (n : Int) else lastAt l n
theorem line_count (l : Bs) : ∀ n : Nat, n ≤ l.length → 1 + (l.take n).count 10 = lineAt l n
  | 0, _ => by simp [lineAt]
  | n + 1, h => by
    have ih := line_count l n (by omega)
    have hn : l[n]? = some l[n] := List.getElem?_eq_getElem (by omega)
    rw [List.take_add_one, List.count_append, hn]
    unfold lineAt
    rw [hn]
    by_cases h10 : l[n] = 10
    · rw [if_pos (by rw [h10]), ← ih, h10]
      simp only [Option.toList_some, List.count_singleton_self]
      omega
    · rw [if_neg (by intro h; exact h10 (Option.some.inj h)), ← ih]
      have : List.count 10 (some l[n]).toList = 0 := by
        rw [List.count_eq_zero]
        intro hm
        simp only [Option.toList_some, List.mem_singleton] at hm
        exact h10 hm.symm
      omega
theorem last_col (l : Bs) : ∀ n : Nat, (n : Int) - lastAt l n = (colAt l n : Int)
  | 0 => rfl
  | n + 1 => by
    have ih := last_col l n
    unfold lastAt colAt
    split
    · omega
    · omega
theorem last_take (l : Bs) (n : Nat) : ∀ m : Nat, m ≤ n → lastAt (l.take n) m = lastAt l m
  | 0, _ => rfl
  | m + 1, h => by
    unfold lastAt
    rw [List.getElem?_take_of_lt (by omega), last_take l n m (by omega)]
theorem last_range (l : Bs) : ∀ n : Nat, -1 ≤ lastAt l n ∧ lastAt l n < (n : Int)
  | 0 => ⟨Int.le_refl _, show (-1 : Int) < 0 by decide⟩
  | n + 1 => by
    have ih := last_range l n
    unfold lastAt
    split <;> omega
theorem line_pos (l : Bs) : ∀ n : Nat, 1 ≤ lineAt l n ∧ lineAt l n ≤ n + 1
  | 0 => ⟨Nat.le_refl _, Nat.le_refl _⟩
  | n + 1 => by
    have ih := line_pos l n
    unfold lineAt
    split <;> omega
theorem col_pos (l : Bs) : ∀ n : Nat, 1 ≤ colAt l n ∧ colAt l n ≤ n + 1
  | 0 => ⟨Nat.le_refl _, Nat.le_refl _⟩
  | n + 1 => by
    have ih := col_pos l n
    unfold colAt
    split <;> omega
end Go.Proofs.YteobbnehdlcphaaDoor.Tok
namespace Go.Proofs.YteobbnehdlcphaaDoor.P
open Go.RowKit Go.Proofs.YteobbnehdlcphaaDoorW.PrintWords Go.Proofs.YteobbnehdlcphaaDoorW.PrintLast Go.Proofs.YteobbnehdlcphaaDoorW.PrintMore
open Go.Proofs.YteobbnehdlcphaaDoor
theorem feed_bt : bt (⟨#[10]⟩ : ByteArray) 0 = 10 := by rfl
attribute [local irreducible] bt
theorem bt_at {s : ByteArray} {i : Nat} (h : i < s.size) : ∃ c, s.data.toList[i]? = some c ∧ bt s (i : Int) = (c.toNat : Int) := by
  have h1 : i < s.data.toList.length := by rw [len_eq]; exact h
  exact ⟨_, List.getElem?_eq_getElem h1, (bt_of (List.drop_eq_getElem_cons h1)).1⟩
theorem ten (c : UInt8) : ((c.toNat : Int) = 10) ↔ (some c = some (10 : UInt8)) := by
  have := byte_ne c 10 (by decide)
  constructor
  · intro h; rw [this.1 h]; rfl
  · intro h; exact this.2 (Option.some.inj h)
theorem ev_last (s : ByteArray) (hs : Sm s) : ∀ m : Nat, m ≤ s.size → Ev (fun k => bytealg_LastIndexByteString.l0 k s 10 ((m : Int) - 1)) (Tok.lastAt s.data.toList m) := by
  have hs' : s.size ≤ 4611686018427387904 := hs
  intro m
  induction m with
  | zero =>
    intro _
    refine Ev.step (f := fun _ => some (-1)) (fun k => ?_) (Ev.now _)
    simp only [bytealg_LastIndexByteString.l0]
    rw [if_neg (by omega)]
  | succ m ih =>
    intro hm
    have h1 := ih (by omega)
    obtain ⟨c, hc, hb⟩ := bt_at (s := s) (i := m) (by omega)
    have hi : ((m + 1 : Nat) : Int) - 1 = (m : Int) := by omega
    rw [hi]
    unfold Tok.lastAt
    rw [hc]
    by_cases h10 : some c = some (10 : UInt8)
    · rw [if_pos h10]
      refine Ev.step (f := fun _ => some (m : Int)) (fun k => ?_) (Ev.now _)
      simp only [bytealg_LastIndexByteString.l0]
      rw [if_pos (by omega), if_pos (by omega), if_pos (by omega), hb, if_pos ((ten c).2 h10)]
    · rw [if_neg h10]
      refine Ev.step (fun k => ?_) h1
      simp only [bytealg_LastIndexByteString.l0]
      rw [if_pos (by omega), if_pos (by omega), if_pos (by omega), hb, if_neg (fun h => h10 ((ten c).1 h)), w64 (by omega) (by omega)]
theorem ev_lastIndex (s : ByteArray) (hs : Sm s) : Ev (fun k => strings_LastIndex.f k s (⟨#[10]⟩ : ByteArray)) (Tok.lastAt s.data.toList s.size) := by
  have hs' : s.size ≤ 4611686018427387904 := hs
  obtain ⟨K, e⟩ := ev_last s hs s.size (Nat.le_refl _)
  refine ⟨K, fun k hk => ?_⟩
  show strings_LastIndex.f k s (⟨#[10]⟩ : ByteArray) = _
  unfold strings_LastIndex.f
  rw [if_pos (by rfl), feed_bt]
  unfold bytealg_LastIndexByteString.f
  rw [w64 (by omega) (by omega)]
  exact e k hk
theorem count_f (s : ByteArray) : strings_Count.f s (⟨#[10]⟩ : ByteArray) = some ((s.data.toList.count 10 : Nat) : Int) := rfl
/-- What Line answers. -/
def lineS (s : ByteArray) (p : Int) : Int × Int × Int := if s.size > 20000 then (0, 0, 3) else if p < 0 ∨ p > (s.size : Int) then (0, 0, 2) else ((Tok.lineAt s.data.toList p.toNat : Nat), (Tok.colAt s.data.toList p.toNat : Nat), 0)
theorem ev_Line (s : ByteArray) (p : Int) : Ev (fun k => token_Line.f k s p) (lineS s p) := by
  unfold lineS
  by_cases hb : s.size > 20000
  · rw [if_pos hb]
    refine ⟨0, fun k _ => ?_⟩
    show token_Line.f k s p = _
    unfold token_Line.f
    rw [if_pos (by omega)]
  · rw [if_neg hb]
    by_cases hp : p < 0 ∨ p > (s.size : Int)
    · rw [if_pos hp]
      refine Ev.step (f := fun _ => some (0, 0, 2)) (fun k => ?_) (Ev.now _)
      show token_Line.f (k + 1) s p = _
      unfold token_Line.f
      rw [if_neg (by omega)]
      by_cases h0 : p < 0
      · rw [if_pos h0]
        simp only [token_Line.j0]
        rw [if_pos trivial]
      · rw [if_neg h0, decide_eq_true (by omega)]
        simp only [token_Line.j0]
        rw [if_pos trivial]
    · rw [if_neg hp]
      have hsm : Sm s := Nat.le_trans (Nat.le_of_not_gt hb) (by decide)
      obtain ⟨n, rfl⟩ : ∃ n : Nat, p = (n : Int) := ⟨p.toNat, by omega⟩
      rw [Int.toNat_natCast]
      have hn : n ≤ s.size := by omega
      have hlist := ext_upto s n
      have hsz : (s.extract 0 n).size = n := by rw [← len_eq, hlist, List.length_take, len_eq]; omega
      have hsm2 : Sm (s.extract 0 n) := by show (s.extract 0 n).size ≤ _; rw [hsz]; omega
      obtain ⟨K, e⟩ := ev_lastIndex (s.extract 0 n) hsm2
      dsimp only at e
      rw [hsz, hlist, Tok.last_take _ _ _ (Nat.le_refl _)] at e
      have hcount := Tok.line_count s.data.toList n (by rw [len_eq]; exact hn)
      have hcol := Tok.last_col s.data.toList n
      have hlr := Tok.line_pos s.data.toList n
      have hcr := Tok.col_pos s.data.toList n
      refine ⟨K + 1, fun k hk => ?_⟩
      obtain ⟨m, rfl⟩ : ∃ m, k = m + 1 := ⟨k - 1, by omega⟩
      show token_Line.f (m + 1) s (n : Int) = _
      unfold token_Line.f
      rw [if_neg (by omega), if_neg (by omega), decide_eq_false (by omega)]
      simp only [token_Line.j0]
      rw [if_neg (by decide), if_pos (by omega), if_pos (by omega), Int.toNat_natCast]
      refine bind_of (count_f _) ?_
      refine bind_of (e m (by omega)) ?_
      rw [hlist, hcol, w64 (by omega) (by omega), w64 (by omega) (by omega)]
      have : (1 : Int) + ((s.data.toList.take n).count 10 : Nat) = ((Tok.lineAt s.data.toList n : Nat) : Int) := by omega
      rw [this]
theorem ev_rLine1 (s : ByteArray) (hs : s.size ≤ 20000) (n : Nat) (hn : n ≤ s.size) : ∀ (d i : Nat), n - i = d → i ≤ n →
    Ev (fun k => fluxionref04_Line.l0 k s (n : Int) (Tok.lineAt s.data.toList i : Nat) (Tok.colAt s.data.toList i : Nat) (i : Int)) (((Tok.lineAt s.data.toList n : Nat) : Int), ((Tok.colAt s.data.toList n : Nat) : Int)) := by
  intro d
  induction d with
  | zero =>
    intro i h1 h2
    obtain rfl : i = n := by omega
    refine Ev.step (f := fun _ => some (((Tok.lineAt s.data.toList i : Nat) : Int), ((Tok.colAt s.data.toList i : Nat) : Int))) (fun k => ?_) (Ev.now _)
    simp only [fluxionref04_Line.l0]
    rw [if_neg (by omega)]
  | succ d ih =>
    intro i h1 h2
    have h3 := ih (i + 1) (by omega) (by omega)
    have hlr := Tok.line_pos s.data.toList i
    have hcr := Tok.col_pos s.data.toList i
    obtain ⟨c, hc, hb⟩ := bt_at (s := s) (i := i) (by omega)
    have hl1 : Tok.lineAt s.data.toList (i + 1) = if some c = some (10 : UInt8) then Tok.lineAt s.data.toList i + 1 else Tok.lineAt s.data.toList i := by
      rw [← hc]; rfl
    have hc1 : Tok.colAt s.data.toList (i + 1) = if some c = some (10 : UInt8) then 1 else Tok.colAt s.data.toList i + 1 := by
      rw [← hc]; rfl
    rw [hl1, hc1] at h3
    refine Ev.step (fun k => ?_) h3
    simp only [fluxionref04_Line.l0]
    rw [if_pos (by omega), if_pos (by omega), if_pos (by omega), hb]
    by_cases h10 : some c = some (10 : UInt8)
    · rw [if_pos ((ten c).2 h10), if_pos h10, if_pos h10, w64 (by omega) (by omega), w64 (by omega) (by omega)]
      rfl
    · rw [if_neg (fun h => h10 ((ten c).1 h)), if_neg h10, if_neg h10, w64 (n := _ + 1) (by omega) (by omega), w64 (n := (i : Int) + 1) (by omega) (by omega)]
      rfl
theorem ev_rLine (s : ByteArray) (hs : s.size ≤ 20000) (n : Nat) (hn : n ≤ s.size) : Ev (fun k => fluxionref04_Line.f k s (n : Int)) (((Tok.lineAt s.data.toList n : Nat) : Int), ((Tok.colAt s.data.toList n : Nat) : Int)) :=
  ev_rLine1 s hs n hn n 0 rfl (Nat.zero_le _)
theorem tokenPlaces_all (a0 : ByteArray) (a1 : Int) : ∃ k, fluxionlaw04_TokenPlaces.f k a0 a1 = some true := by
  obtain ⟨s, hs, hsz⟩ := short_f a0
  obtain ⟨K1, e1⟩ := ev_Line s a1
  obtain ⟨K2, e2⟩ := ev_alive
  dsimp only at e1 e2
  unfold lineS at e1
  by_cases hb : s.size > 20000
  · rw [if_pos hb] at e1
    refine ⟨K1 + K2, ?_⟩
    unfold fluxionlaw04_TokenPlaces.f
    refine bind_of hs ?_
    refine bind_of (e1 _ (by omega)) ?_
    rw [if_pos (by omega), if_pos rfl, if_pos rfl, if_pos rfl]
    exact bind_of (e2 _ (by omega)) rfl
  · rw [if_neg hb] at e1
    by_cases hp : a1 < 0 ∨ a1 > (s.size : Int)
    · rw [if_pos hp] at e1
      have hj : fluxionlaw04_TokenPlaces.j0 (K1 + K2 + 1) a1 s 0 0 2 true = some true := by
        simp only [fluxionlaw04_TokenPlaces.j0]
        rw [if_pos trivial, if_pos trivial, if_pos trivial, if_pos trivial]
        exact bind_of (e2 _ (by omega)) rfl
      refine ⟨K1 + K2 + 1, ?_⟩
      unfold fluxionlaw04_TokenPlaces.f
      refine bind_of hs ?_
      refine bind_of (e1 _ (by omega)) ?_
      rw [if_neg (by omega)]
      by_cases h0 : a1 < 0
      · rw [if_pos h0]; exact hj
      · rw [if_neg h0, decide_eq_true (by omega)]; exact hj
    · rw [if_neg hp] at e1
      obtain ⟨n, rfl⟩ : ∃ n : Nat, a1 = (n : Int) := ⟨a1.toNat, by omega⟩
      rw [Int.toNat_natCast] at e1
      obtain ⟨K3, e3⟩ := ev_rLine s (by omega) n (by omega)
      dsimp only at e3
      refine ⟨K1 + K2 + K3 + 1, ?_⟩
      unfold fluxionlaw04_TokenPlaces.f
      refine bind_of hs ?_
      refine bind_of (e1 _ (by omega)) ?_
      rw [if_neg (by omega), if_neg (by omega), decide_eq_false (by omega)]
      simp only [fluxionlaw04_TokenPlaces.j0]
      rw [if_neg (by decide)]
      refine bind_of (e3 _ (by omega)) ?_
      rw [if_pos rfl, if_pos rfl, if_pos trivial]
      exact bind_of (e2 _ (by omega)) rfl
end Go.Proofs.YteobbnehdlcphaaDoor.P
