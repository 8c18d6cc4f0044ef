import Derived.Lib.IndexBytes
import Derived.Lib.PathFns
import Derived.Test.YteobbnehdlcphaaDoorQLP3
import Derived.Test.YteobbnehdlcphaaDoorQLP4
import Derived.Test.YteobbnehdlcphaaDoorQLTA
import Derived.Test.YteobbnehdlcphaaDoorQLG
namespace Go.Proofs.YteobbnehdlcphaaDoor.P
open Go.RowKit Go.Proofs.YteobbnehdlcphaaDoorW.PrintWords Go.Proofs.YteobbnehdlcphaaDoorW.PrintLast Go.Proofs.YteobbnehdlcphaaDoorW.PrintMore
open Go.Proofs.YteobbnehdlcphaaDoor
abbrev Sm (s : ByteArray) : Prop := s.size ≤ 4611686018427387904
theorem len_eq (s : ByteArray) : s.data.toList.length = s.size := data_length s
theorem w64 {n : Int} (h0 : -9223372036854775808 ≤ n) (h1 : n < 9223372036854775808) : wrap64 n = n := by unfold wrap64; omega
theorem ext_upto (s : ByteArray) (a : Nat) : (s.extract 0 a).data.toList = s.data.toList.take a := by rw [Lib.extract_data, Nat.sub_zero, List.drop_zero]
theorem bt_of {s : ByteArray} {i : Nat} {c : UInt8} {r : Tok.Bs} (h : s.data.toList.drop i = c :: r) : bt s (i : Int) = (c.toNat : Int) ∧ i < s.size := by
  have h1 : i < s.data.toList.length := by
    rcases Nat.lt_or_ge i s.data.toList.length with h' | h'
    · exact h'
    · rw [List.drop_of_length_le h'] at h; cases h
  have h2 : i < s.size := by rw [← len_eq]; exact h1
  refine ⟨?_, h2⟩
  have h3 := List.drop_eq_getElem_cons h1
  rw [h] at h3
  injection h3 with h3 _
  unfold bt
  rw [Int.toNat_natCast, dif_pos h2, h3]
  rfl
attribute [local irreducible] bt
theorem bind_of {α β : Type} {a : Option α} {x : α} {f : α → Option β} {y : Option β} (h : a = some x) (h2 : f x = y) : a.bind f = y := by
  subst h
  exact h2
theorem byte_eq (c : UInt8) (n : Nat) (hn : n < 256) : ((c.toNat : Int) == (n : Int)) = (c == n.toUInt8) := by
  rw [Bool.eq_iff_iff, beq_iff_eq, beq_iff_eq]
  constructor
  · intro h
    have h1 : c.toNat = n := by omega
    rw [← h1]; simp
  · rintro rfl
    simp [Nat.mod_eq_of_lt hn]
theorem byte_ne (c : UInt8) (n : Nat) (hn : n < 256) : ((c.toNat : Int) = (n : Int)) ↔ c = n.toUInt8 := by
  have := byte_eq c n hn
  rw [Bool.eq_iff_iff, beq_iff_eq, beq_iff_eq] at this
  exact this
end Go.Proofs.YteobbnehdlcphaaDoor.P
namespace Go.Proofs.YteobbnehdlcphaaDoor.P
open Go.RowKit Go.Proofs.YteobbnehdlcphaaDoorW.PrintWords Go.Proofs.YteobbnehdlcphaaDoorW.PrintLast Go.Proofs.YteobbnehdlcphaaDoorW.PrintMore
open Go.Proofs.YteobbnehdlcphaaDoor
attribute [local irreducible] bt
end Go.Proofs.YteobbnehdlcphaaDoor.P
namespace Go.Proofs.YteobbnehdlcphaaDoor.P
open Go.RowKit Go.Proofs.YteobbnehdlcphaaDoorW.PrintWords Go.Proofs.YteobbnehdlcphaaDoorW.PrintLast Go.Proofs.YteobbnehdlcphaaDoorW.PrintMore
open Go.Proofs.YteobbnehdlcphaaDoor
attribute [local irreducible] bt
end Go.Proofs.YteobbnehdlcphaaDoor.P

