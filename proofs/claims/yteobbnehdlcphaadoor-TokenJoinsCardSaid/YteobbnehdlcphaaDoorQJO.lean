import Derived.Deep.Slices
import Derived.Lib.SmallJoins
import Derived.Carry
import Derived.Test.YteobbnehdlcphaaDoorQJL
namespace Go.Proofs.YteobbnehdlcphaaDoor.P
open Go.RowKit Go.Proofs.YteobbnehdlcphaaDoorW.PrintWords Go.Proofs.YteobbnehdlcphaaDoorW.PrintLast Go.Proofs.YteobbnehdlcphaaDoorW.PrintMore
open Go.Proofs.YteobbnehdlcphaaDoor
open Go.ChangeShapes Go.WideShapes Go.Deep
theorem laidOut : laidOutB Tryd.prog = true := by kernel_rfl
theorem cells44 : Tryd.prog.cellsOf 44 = 3 := by kernel_rfl
theorem cells3 : Tryd.prog.cellsOf 3 = 1 := by kernel_rfl
theorem list3 {α : Type} {cs : List α} (h : cs.length = 3) : ∃ a b c, cs = [a, b, c] := by
  match cs, h with
  | [a, b, c], _ => exact ⟨a, b, c, rfl⟩
section
variable {H : Type} {enc : TypeId × Value → H} {w : World} {base : Nat} {spare : Nat → Bool} {held : Bool}
theorem tok_cells {fuel : Nat} {cs : List Value} {x : DataW H × List MemPlace} (h : DataW.trod enc Tryd.prog w base spare held fuel 44 cs = some x) :
    ∃ t : S44, cs = [.int .i64 t.f0, .string t.f1, .int .i64 t.f2] := by
  obtain ⟨xs, n, _, _, hl, _, hf⟩ := DataW.trod_struct Tryd.underlying44 h
  rw [cells44] at hl
  obtain ⟨a, b, c, rfl⟩ := list3 hl
  have h0 : DataW.trod enc Tryd.prog w base spare held n 3 (([a, b, c].drop 0).take (Tryd.prog.cellsOf 3)) = xs[0]? := hf 0 _ rfl
  have h1 : DataW.trod enc Tryd.prog w base spare held n 9 (([a, b, c].drop 1).take (Tryd.prog.cellsOf 9)) = xs[1]? := hf 1 _ rfl
  have h2 : DataW.trod enc Tryd.prog w base spare held n 3 (([a, b, c].drop 2).take (Tryd.prog.cellsOf 3)) = xs[2]? := hf 2 _ rfl
  obtain ⟨y0, e0⟩ : ∃ y, xs[0]? = some y := ⟨_, List.getElem?_eq_getElem (by simp_all)⟩
  obtain ⟨y1, e1⟩ : ∃ y, xs[1]? = some y := ⟨_, List.getElem?_eq_getElem (by simp_all)⟩
  obtain ⟨y2, e2⟩ : ∃ y, xs[2]? = some y := ⟨_, List.getElem?_eq_getElem (by simp_all)⟩
  rw [e0] at h0
  rw [e1] at h1
  rw [e2] at h2
  rw [cells3] at h0 h2
  rw [cells9] at h1
  obtain ⟨n0, g0, _, _⟩ := DataW.trod_int Tryd.underlying3 h0
  obtain ⟨n1, g1, _, _⟩ := DataW.trod_string Tryd.underlying9 h1
  obtain ⟨n2, g2, _, _⟩ := DataW.trod_int Tryd.underlying3 h2
  refine ⟨⟨n0, n1, n2⟩, ?_⟩
  have k0 : a = .int .i64 n0 := by simpa using g0
  have k1 : b = .string n1 := by simpa using g1
  have k2 : c = .int .i64 n2 := by simpa using g2
  rw [k0, k1, k2]
theorem open_toks {r : Reach} {b0 : Nat} {v : Value} {d : DataW H} {p : List MemPlace} (hv : Value.okWide Tryd.prog w r b0 23 v) (h : DataW.Trod enc Tryd.prog w base (fun _ => true) held 23 v d p) :
    ∃ (A : Option Addr) (c : Nat) (l : List S44), v = .slice A l.length c ∧ Kd.C k44 w A l.length l ∧ l.length ≤ c := by
  obtain ⟨a, len, cap, rfl⟩ := okWide_slice Tryd.underlying23 hv
  obtain ⟨fuel, hf⟩ := h
  rcases open_slice Tryd.underlying23 hf with ⟨hcs, _⟩ | ⟨x, l, c, m, n, D, Pl, hcs, _, hl, hm, hmm, _, hx⟩
  · simp [Value.cells] at hcs
    obtain ⟨rfl, rfl, rfl⟩ := hcs
    exact ⟨none, 0, [], rfl, ⟨rfl, by decide, fun h => absurd h (Nat.lt_irrefl _)⟩, Nat.le_refl _⟩
  · simp [Value.cells] at hcs
    obtain ⟨rfl, rfl, rfl⟩ := hcs
    have hmm2 : m = cap := by rw [hmm]; rfl
    have each : ∀ i, i < len → ∃ t : S44, w.cells? base (x.add (i * 3)) 3 = some [.int .i64 t.f0, .string t.f1, .int .i64 t.f2] := by
      intro i hi
      obtain ⟨cs', h1, h2⟩ := hx i (by omega)
      obtain ⟨t, rfl⟩ := tok_cells h2
      rw [cells44] at h1
      exact ⟨t, h1⟩
    letI : Inhabited S44 := ⟨z44⟩
    obtain ⟨f, hfx⟩ := choose_lt each
    refine ⟨some x, cap, (List.range len).map f, by rw [List.length_map, List.length_range], ⟨rfl, ?_, fun _ => ⟨x, rfl, ?_⟩⟩, by rw [List.length_map, List.length_range]; exact hl⟩
    · rw [List.length_map, List.length_range]
      have : maxLen ≤ 9223372036854775807 := by decide
      omega
    · intro j p hj
      rw [List.getElem?_map] at hj
      obtain ⟨i, hi, rfl⟩ := Option.map_eq_some_iff.1 hj
      have hij : i = j ∧ j < len := by
        rw [List.getElem?_eq_some_iff] at hi
        obtain ⟨h1, h2⟩ := hi
        rw [List.length_range] at h1
        rw [List.getElem_range] at h2
        exact ⟨h2.symm, h1⟩
      obtain ⟨rfl, hil⟩ := hij
      have h1 := hfx i hil
      obtain ⟨_, _, hcell⟩ := World.cells?_some h1
      refine ⟨_, rfl, k44_mk w (f i), fun j u hu => ?_⟩
      have hj3 : j < 3 := by
        rw [List.getElem?_eq_some_iff] at hu
        exact hu.1
      have h2 := hcell j hj3
      rw [Deep.add_add] at h2
      rw [show (k44.sz) = 3 from rfl, h2, hu]
end
end Go.Proofs.YteobbnehdlcphaaDoor.P

