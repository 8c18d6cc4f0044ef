import Derived.Test.YteobbnehdlcphaaDoorQLP0
import Derived.Test.YteobbnehdlcphaaDoorQLP2
import Derived.Test.YteobbnehdlcphaaDoorQLP11
import Derived.Test.YteobbnehdlcphaaDoorQLP3
import Derived.Test.YteobbnehdlcphaaDoorQLP6
import Derived.Test.YteobbnehdlcphaaDoorQLP1
import Derived.Test.YteobbnehdlcphaaDoorQLG
import Derived.Test.YteobbnehdlcphaaDoorQLTE
namespace Go.Proofs.YteobbnehdlcphaaDoor.Tok
def lineAt (l : Bs) : Nat → Nat
  | 0 => 1
  | n + 1 => if l[n]? = some 10 then lineAt l n + 1 else lineAt l n
def colAt (l : Bs) : Nat → Nat
  | 0 => 1
  | n + 1 => if l[n]? = some 10 then 1 else colAt l n + 1
def lastAt (l : Bs) : Nat → Int
  | 0 => -1
  | n + 1 => if l[n]? = some 10 then (n : Int) else lastAt l n
theorem line_count (l : Bs) : ∀ n : Nat, n ≤ l.length → 1 + (l.take n).count 10 = lineAt l n
  | 0, _ => by simp [lineAt]
  | n + 1, h => by
    have ih := line_count l n (by omega)
    have hn : l[n]? = some l[n] := List.getElem?_eq_getElem (by omega)
    rw [List.take_add_one, List.count_append, hn]
    unfold lineAt
    rw [hn]
    by_cases h10 : l[n] = 10
    · rw [if_pos (by rw [h10]), ← ih, h10]
      simp only [Option.toList_some, List.count_singleton_self]
      omega
    · rw [if_neg (by intro h; exact h10 (Option.some.inj h)), ← ih]
      have : List.count 10 (some l[n]).toList = 0 := by
        rw [List.count_eq_zero]
        intro hm
        simp only [Option.toList_some, List.mem_singleton] at hm
        exact h10 hm.symm
      omega
theorem last_col (l : Bs) : ∀ n : Nat, (n : Int) - lastAt l n = (colAt l n : Int)
  | 0 => rfl
  | n + 1 => by
    have ih := last_col l n
    unfold lastAt colAt
    split
    · omega
    · omega
theorem last_take (l : Bs) (n : Nat) : ∀ m : Nat, m ≤ n → lastAt (l.take n) m = lastAt l m
  | 0, _ => rfl
  | m + 1, h => by
    unfold lastAt
    rw [List.getElem?_take_of_lt (by omega), last_take l n m (by omega)]
theorem line_pos (l : Bs) : ∀ n : Nat, 1 ≤ lineAt l n ∧ lineAt l n ≤ n + 1
  | 0 => ⟨Nat.le_refl _, Nat.le_refl _⟩
  | n + 1 => by
    have ih := line_pos l n
    unfold lineAt
    split <;> omega
theorem col_pos (l : Bs) : ∀ n : Nat, 1 ≤ colAt l n ∧ colAt l n ≤ n + 1
  | 0 => ⟨Nat.le_refl _, Nat.le_refl _⟩
  | n + 1 => by
    have ih := col_pos l n
    unfold colAt
    split <;> omega
end Go.Proofs.YteobbnehdlcphaaDoor.Tok
namespace Go.Proofs.YteobbnehdlcphaaDoor.P
open Go.RowKit Go.Proofs.YteobbnehdlcphaaDoorW.PrintWords Go.Proofs.YteobbnehdlcphaaDoorW.PrintLast Go.Proofs.YteobbnehdlcphaaDoorW.PrintMore
open Go.Proofs.YteobbnehdlcphaaDoor
theorem feed_bt : bt (⟨#[10]⟩ : ByteArray) 0 = 10 := by rfl
attribute [local irreducible] bt
theorem bt_at {s : ByteArray} {i : Nat} (h : i < s.size) : ∃ c, s.data.toList[i]? = some c ∧ bt s (i : Int) = (c.toNat : Int) := by
  have h1 : i < s.data.toList.length := by rw [len_eq]; exact h
  exact ⟨_, List.getElem?_eq_getElem h1, (bt_of (List.drop_eq_getElem_cons h1)).1⟩
theorem ten (c : UInt8) : ((c.toNat : Int) = 10) ↔ (some c = some (10 : UInt8)) := by
  have := byte_ne c 10 (by decide)
  constructor
  · intro h; rw [this.1 h]; rfl
  · intro h; exact this.2 (Option.some.inj h)
theorem ev_last (s : ByteArray) (hs : Sm s) : ∀ m : Nat, m ≤ s.size → Ev (fun k => bytealg_LastIndexByteString.l0 k s 10 ((m : Int) - 1)) (Tok.lastAt s.data.toList m) := by
  have hs' : s.size ≤ 4611686018427387904 := hs
  intro m
  induction m with
  | zero =>
    intro _
    refine Ev.step (f := fun _ => some (-1)) (fun k => ?_) (Ev.now _)
    simp only [bytealg_LastIndexByteString.l0]
    rw [if_neg (by omega)]
  | succ m ih =>
    intro hm
    have h1 := ih (by omega)
    obtain ⟨c, hc, hb⟩ := bt_at (s := s) (i := m) (by omega)
    have hi : ((m + 1 : Nat) : Int) - 1 = (m : Int) := by omega
    rw [hi]
    unfold Tok.lastAt
    rw [hc]
    by_cases h10 : some c = some (10 : UInt8)
    · rw [if_pos h10]
      refine Ev.step (f := fun _ => some (m : Int)) (fun k => ?_) (Ev.now _)
      simp only [bytealg_LastIndexByteString.l0]
      rw [if_pos (by omega), if_pos (by omega), if_pos (by omega), hb, if_pos ((ten c).2 h10)]
    · rw [if_neg h10]
      refine Ev.step (fun k => ?_) h1
      simp only [bytealg_LastIndexByteString.l0]
      rw [if_pos (by omega), if_pos (by omega), if_pos (by omega), hb, if_neg (fun h => h10 ((ten c).1 h)), w64 (by omega) (by omega)]
theorem ev_lastIndex (s : ByteArray) (hs : Sm s) : Ev (fun k => strings_LastIndex.f k s (⟨#[10]⟩ : ByteArray)) (Tok.lastAt s.data.toList s.size) := by
  have hs' : s.size ≤ 4611686018427387904 := hs
  obtain ⟨K, e⟩ := ev_last s hs s.size (Nat.le_refl _)
  refine ⟨K, fun k hk => ?_⟩
  show strings_LastIndex.f k s (⟨#[10]⟩ : ByteArray) = _
  unfold strings_LastIndex.f
  rw [if_pos (by rfl), feed_bt]
  unfold bytealg_LastIndexByteString.f
  rw [w64 (by omega) (by omega)]
  exact e k hk
theorem count_f (s : ByteArray) : strings_Count.f s (⟨#[10]⟩ : ByteArray) = some ((s.data.toList.count 10 : Nat) : Int) := rfl
def lineS (s : ByteArray) (p : Int) : Int × Int × Int := if s.size > 20000 then (0, 0, 3) else if p < 0 ∨ p > (s.size : Int) then (0, 0, 2) else ((Tok.lineAt s.data.toList p.toNat : Nat), (Tok.colAt s.data.toList p.toNat : Nat), 0)
theorem ev_Line (s : ByteArray) (p : Int) : Ev (fun k => token_Line.f k s p) (lineS s p) := by
  unfold lineS
  by_cases hb : s.size > 20000
  · rw [if_pos hb]
    refine ⟨0, fun k _ => ?_⟩
    show token_Line.f k s p = _
    unfold token_Line.f
    rw [if_pos (by omega)]
  · rw [if_neg hb]
    by_cases hp : p < 0 ∨ p > (s.size : Int)
    · rw [if_pos hp]
      refine Ev.step (f := fun _ => some (0, 0, 2)) (fun k => ?_) (Ev.now _)
      show token_Line.f (k + 1) s p = _
      unfold token_Line.f
      rw [if_neg (by omega)]
      by_cases h0 : p < 0
      · rw [if_pos h0]
        simp only [token_Line.j0]
        rw [if_pos trivial]
      · rw [if_neg h0, decide_eq_true (by omega)]
        simp only [token_Line.j0]
        rw [if_pos trivial]
    · rw [if_neg hp]
      have hsm : Sm s := Nat.le_trans (Nat.le_of_not_gt hb) (by decide)
      obtain ⟨n, rfl⟩ : ∃ n : Nat, p = (n : Int) := ⟨p.toNat, by omega⟩
      rw [Int.toNat_natCast]
      have hn : n ≤ s.size := by omega
      have hlist := ext_upto s n
      have hsz : (s.extract 0 n).size = n := by rw [← len_eq, hlist, List.length_take, len_eq]; omega
      have hsm2 : Sm (s.extract 0 n) := by show (s.extract 0 n).size ≤ _; rw [hsz]; omega
      obtain ⟨K, e⟩ := ev_lastIndex (s.extract 0 n) hsm2
      dsimp only at e
      rw [hsz, hlist, Tok.last_take _ _ _ (Nat.le_refl _)] at e
      have hcount := Tok.line_count s.data.toList n (by rw [len_eq]; exact hn)
      have hcol := Tok.last_col s.data.toList n
      have hlr := Tok.line_pos s.data.toList n
      have hcr := Tok.col_pos s.data.toList n
      refine ⟨K + 1, fun k hk => ?_⟩
      obtain ⟨m, rfl⟩ : ∃ m, k = m + 1 := ⟨k - 1, by omega⟩
      show token_Line.f (m + 1) s (n : Int) = _
      unfold token_Line.f
      rw [if_neg (by omega), if_neg (by omega), decide_eq_false (by omega)]
      simp only [token_Line.j0]
      rw [if_neg (by decide), if_pos (by omega), if_pos (by omega), Int.toNat_natCast]
      refine bind_of (count_f _) ?_
      refine bind_of (e m (by omega)) ?_
      rw [hlist, hcol, w64 (by omega) (by omega), w64 (by omega) (by omega)]
      have : (1 : Int) + ((s.data.toList.take n).count 10 : Nat) = ((Tok.lineAt s.data.toList n : Nat) : Int) := by omega
      rw [this]
end Go.Proofs.YteobbnehdlcphaaDoor.P

