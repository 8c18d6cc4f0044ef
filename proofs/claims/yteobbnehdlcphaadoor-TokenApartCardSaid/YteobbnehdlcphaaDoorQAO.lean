import Derived.Deep.Slices
import Derived.Lib.SmallJoins
import Derived.Carry
import Derived.Test.YteobbnehdlcphaaDoorQAL
namespace Go.Proofs.YteobbnehdlcphaaDoor.P
open Go.RowKit Go.Proofs.YteobbnehdlcphaaDoorW.PrintWords Go.Proofs.YteobbnehdlcphaaDoorW.PrintLast Go.Proofs.YteobbnehdlcphaaDoorW.PrintMore
open Go.Proofs.YteobbnehdlcphaaDoor
open Go.ChangeShapes Go.WideShapes Go.Deep
theorem laidOut : laidOutB Tryd.prog = true := by kernel_rfl
theorem cells44 : Tryd.prog.cellsOf 44 = 3 := by kernel_rfl
theorem cells3 : Tryd.prog.cellsOf 3 = 1 := by kernel_rfl
theorem list3 {α : Type} {cs : List α} (h : cs.length = 3) : ∃ a b c, cs = [a, b, c] := by
  match cs, h with
  | [a, b, c], _ => exact ⟨a, b, c, rfl⟩
section
variable {H : Type} {enc : TypeId × Value → H} {w : World} {base : Nat} {spare : Nat → Bool} {held : Bool}
theorem tok_cells {fuel : Nat} {cs : List Value} {x : DataW H × List MemPlace} (h : DataW.trod enc Tryd.prog w base spare held fuel 44 cs = some x) :
    ∃ t : S44, cs = [.int .i64 t.f0, .string t.f1, .int .i64 t.f2] := by
  obtain ⟨xs, n, _, _, hl, _, hf⟩ := DataW.trod_struct Tryd.underlying44 h
  rw [cells44] at hl
  obtain ⟨a, b, c, rfl⟩ := list3 hl
  have h0 : DataW.trod enc Tryd.prog w base spare held n 3 (([a, b, c].drop 0).take (Tryd.prog.cellsOf 3)) = xs[0]? := hf 0 _ rfl
  have h1 : DataW.trod enc Tryd.prog w base spare held n 9 (([a, b, c].drop 1).take (Tryd.prog.cellsOf 9)) = xs[1]? := hf 1 _ rfl
  have h2 : DataW.trod enc Tryd.prog w base spare held n 3 (([a, b, c].drop 2).take (Tryd.prog.cellsOf 3)) = xs[2]? := hf 2 _ rfl
  obtain ⟨y0, e0⟩ : ∃ y, xs[0]? = some y := ⟨_, List.getElem?_eq_getElem (by simp_all)⟩
  obtain ⟨y1, e1⟩ : ∃ y, xs[1]? = some y := ⟨_, List.getElem?_eq_getElem (by simp_all)⟩
  obtain ⟨y2, e2⟩ : ∃ y, xs[2]? = some y := ⟨_, List.getElem?_eq_getElem (by simp_all)⟩
  rw [e0] at h0
  rw [e1] at h1
  rw [e2] at h2
  rw [cells3] at h0 h2
  rw [cells9] at h1
  obtain ⟨n0, g0, _, _⟩ := DataW.trod_int Tryd.underlying3 h0
  obtain ⟨n1, g1, _, _⟩ := DataW.trod_string Tryd.underlying9 h1
  obtain ⟨n2, g2, _, _⟩ := DataW.trod_int Tryd.underlying3 h2
  refine ⟨⟨n0, n1, n2⟩, ?_⟩
  have k0 : a = .int .i64 n0 := by simpa using g0
  have k1 : b = .string n1 := by simpa using g1
  have k2 : c = .int .i64 n2 := by simpa using g2
  rw [k0, k1, k2]
theorem open_tok {r : Reach} {b0 : Nat} {v : Value} {d : DataW H} {p : List MemPlace} (hv : Value.okWide Tryd.prog w r b0 44 v) (h : DataW.Trod enc Tryd.prog w base spare held 44 v d p) :
    ∃ t : S44, v = .agg #[.int .i64 t.f0, .string t.f1, .int .i64 t.f2] := by
  obtain ⟨cs, rfl, hsz⟩ := okWide_struct Tryd.underlying44 hv
  obtain ⟨fuel, hf⟩ := h
  obtain ⟨t, ht⟩ := tok_cells hf
  refine ⟨t, ?_⟩
  have : cs.toList = [.int .i64 t.f0, .string t.f1, .int .i64 t.f2] := by simpa [Value.cells] using ht
  congr 1
  exact Array.toList_inj.1 this
end
end Go.Proofs.YteobbnehdlcphaaDoor.P

