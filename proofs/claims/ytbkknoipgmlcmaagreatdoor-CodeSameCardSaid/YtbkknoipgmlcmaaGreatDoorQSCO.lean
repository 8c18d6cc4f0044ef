import Derived.Deep.Slices
import Derived.Lib.SmallJoins
import Derived.Carry
import Derived.Test.YtbkknoipgmlcmaaGreatDoorQSG
set_option linter.unusedVariables false
set_option linter.unusedSimpArgs false
namespace Go.Proofs.YtbkknoipgmlcmaaGreatDoor.P
open Go.RowKit Go.Proofs.YtbkknoipgmlcmaaGreatDoorW.PrintWords Go.Proofs.YtbkknoipgmlcmaaGreatDoorW.PrintLast Go.Proofs.YtbkknoipgmlcmaaGreatDoorW.PrintMore
open Go.ChangeShapes Go.WideShapes Go.Deep
theorem laidOut : laidOutB Tryz.prog = true := by kernel_rfl
theorem list2 {α : Type} {cs : List α} (h : cs.length = 2) : ∃ a b, cs = [a, b] := by
  match cs, h with
  | [a, b], _ => exact ⟨a, b, rfl⟩
theorem list4 {α : Type} {cs : List α} (h : cs.length = 4) : ∃ a b c d, cs = [a, b, c, d] := by
  match cs, h with
  | [a, b, c, d], _ => exact ⟨a, b, c, d, rfl⟩
theorem list5 {α : Type} {cs : List α} (h : cs.length = 5) : ∃ a b c d e, cs = [a, b, c, d, e] := by
  match cs, h with
  | [a, b, c, d, e], _ => exact ⟨a, b, c, d, e, rfl⟩
theorem list8 {α : Type} {cs : List α} (h : cs.length = 8) : ∃ a b c d e f g i, cs = [a, b, c, d, e, f, g, i] := by
  match cs, h with
  | [a, b, c, d, e, f, g, i], _ => exact ⟨a, b, c, d, e, f, g, i, rfl⟩
section
variable {H : Type} {enc : TypeId × Value → H} {w : World} {base : Nat} {held : Bool}
def Rd {H : Type} (enc : TypeId × Value → H) (w : World) (base : Nat) (held : Bool) {α : Type} (t : TypeId) (K : α → List Value → Prop) : Prop :=
  ∀ (fuel : Nat) (cs : List Value) (y : DataW H × List MemPlace), DataW.trod enc Tryz.prog w base (fun _ => true) held fuel t cs = some y → ∃ x : α, K x cs
theorem rd_slice {α : Type} (z : α) {d : Kd α} {t e : TypeId} (ht : Tryz.prog.underlying t = some (.slice e)) (hc : Tryz.prog.cellsOf e = d.sz) (hel : Rd enc w base held e (d.K w)) {fuel : Nat} {cs : List Value} {y : DataW H × List MemPlace}
    (h : DataW.trod enc Tryz.prog w base (fun _ => true) held fuel t cs = some y) : ∃ (A : Option Addr) (c : Nat) (xs : List α), cs = [.slice A xs.length c] ∧ xs.length ≤ c ∧ Kd.C d w A xs.length xs := by
  rcases open_slice ht h with ⟨rfl, _⟩ | ⟨x, len, cap, m, n, D, Pl, rfl, _, hl, hm, hmm, _, hx⟩
  · exact ⟨none, 0, [], rfl, Nat.le_refl _, ⟨rfl, Nat.zero_le _, fun h => absurd h (Nat.lt_irrefl _)⟩⟩
  · have hmm2 : m = cap := by rw [hmm]; rfl
    have each : ∀ i, i < len → ∃ q : α × List Value, w.cells? base (x.add (i * d.sz)) d.sz = some q.2 ∧ d.K w q.1 q.2 := by
      intro i hi
      obtain ⟨cs', h1, h2⟩ := hx i (by omega)
      obtain ⟨p, hp⟩ := hel _ _ _ h2
      rw [hc] at h1
      exact ⟨(p, cs'), h1, hp⟩
    letI : Inhabited α := ⟨z⟩
    obtain ⟨f, hfx⟩ := choose_lt each
    refine ⟨some x, cap, (List.range len).map fun i => (f i).1, by rw [List.length_map, List.length_range], by rw [List.length_map, List.length_range]; exact hl, ⟨rfl, ?_, fun _ => ⟨x, rfl, ?_⟩⟩⟩
    · rw [List.length_map, List.length_range]
      have : maxLen ≤ 9223372036854775807 := by decide
      omega
    · intro j p hj
      rw [List.getElem?_map] at hj
      obtain ⟨i, hi, rfl⟩ := Option.map_eq_some_iff.1 hj
      have hij : i = j ∧ j < len := by
        rw [List.getElem?_eq_some_iff] at hi
        obtain ⟨h1, h2⟩ := hi
        rw [List.length_range] at h1
        rw [List.getElem_range] at h2
        exact ⟨h2.symm, h1⟩
      obtain ⟨rfl, hil⟩ := hij
      obtain ⟨h1, h2⟩ := hfx i hil
      obtain ⟨_, hlen, hcell⟩ := World.cells?_some h1
      refine ⟨(f i).2, hlen, h2, fun j u hu => ?_⟩
      have hj3 : j < d.sz := by
        rw [List.getElem?_eq_some_iff] at hu
        rw [← hlen]
        exact hu.1
      have h4 := hcell j hj3
      rw [Deep.add_add] at h4
      rw [h4, hu]
theorem rd_int {k : IntKind} {t : TypeId} (ht : Tryz.prog.underlying t = some (.int k)) : Rd enc w base held t ((Kd.int k).K w) := fun _ _ _ h => by
  obtain ⟨n, rfl, _, _⟩ := DataW.trod_int ht h
  exact ⟨n, rfl⟩
theorem rd_field {t : TypeId} {fs : Array Field} (ht : Tryz.prog.underlying t = some (.struct fs)) {fuel : Nat} {cs : List Value} {y : DataW H × List MemPlace} (h : DataW.trod enc Tryz.prog w base (fun _ => true) held fuel t cs = some y) :
    cs.length = Tryz.prog.cellsOf t ∧ ∀ (i : Nat) (f : Field), fs[i]? = some f → ∃ n y2, DataW.trod enc Tryz.prog w base (fun _ => true) held n f.type ((cs.drop f.offset).take (Tryz.prog.cellsOf f.type)) = some y2 := by
  obtain ⟨xs, n, _, _, hl, hxl, hf⟩ := DataW.trod_struct ht h
  refine ⟨hl, fun i f hi => ⟨n, ?_⟩⟩
  have hlt : i < xs.length := by
    rw [hxl]
    rw [Array.getElem?_eq_some_iff] at hi
    exact hi.1
  exact ⟨xs[i], by rw [hf i f hi]; exact List.getElem?_eq_getElem hlt⟩
theorem c1_ (t : TypeId) (h : Tryz.prog.cellsOf t = 1) (l : List Value) : l.take (Tryz.prog.cellsOf t) = l.take 1 := by rw [h]
theorem c4_ (t : TypeId) (h : Tryz.prog.cellsOf t = 4) (l : List Value) : l.take (Tryz.prog.cellsOf t) = l.take 4 := by rw [h]
theorem rd115 : Rd enc w base held 115 (k115.K w) := by
  intro fuel cs y h
  obtain ⟨hl, hf⟩ := rd_field Tryz.underlying115 h
  rw [show Tryz.prog.cellsOf 115 = 2 by kernel_rfl] at hl
  obtain ⟨a, b, rfl⟩ := list2 hl
  obtain ⟨n0, y0, h0⟩ := hf 0 _ rfl
  obtain ⟨n1, y1, h1⟩ := hf 1 _ rfl
  replace h0 : DataW.trod enc Tryz.prog w base (fun _ => true) held n0 113 [a] = some y0 := by rw [c1_ _ (by kernel_rfl)] at h0; exact h0
  replace h1 : DataW.trod enc Tryz.prog w base (fun _ => true) held n1 42 [b] = some y1 := by rw [c1_ _ (by kernel_rfl)] at h1; exact h1
  obtain ⟨p, e0, _, _⟩ := DataW.trod_int Tryz.underlying113 h0
  obtain ⟨A, c, xs, e1, l1, g1⟩ := rd_slice (0 : Int) Tryz.underlying42 (by kernel_rfl) (rd_int Tryz.underlying3) h1
  obtain rfl : a = .int .i64 p := by simpa using e0
  obtain rfl : b = .slice A xs.length c := by simpa using e1
  exact ⟨⟨p, xs⟩, k115_mk w ⟨p, xs⟩ l1 g1⟩
theorem rd61_cells {fuel : Nat} {cs : List Value} {y : DataW H × List MemPlace} (h : DataW.trod enc Tryz.prog w base (fun _ => true) held fuel 61 cs = some y) :
    ∃ (x : S61) (A2 : Option Addr) (c2 : Nat) (A3 : Option Addr) (c3 : Nat), cs = [.int .i64 x.f0, .bool x.f1, .slice A2 x.f2.length c2, .slice A3 x.f3.length c3] ∧ x.f2.length ≤ c2 ∧ (Kd.int .u32).C w A2 x.f2.length x.f2 ∧ x.f3.length ≤ c3 ∧ (Kd.int .u32).C w A3 x.f3.length x.f3 := by
  obtain ⟨hl, hf⟩ := rd_field Tryz.underlying61 h
  rw [show Tryz.prog.cellsOf 61 = 4 by kernel_rfl] at hl
  obtain ⟨a, b, c, d, rfl⟩ := list4 hl
  obtain ⟨n0, y0, h0⟩ := hf 0 _ rfl
  obtain ⟨n1, y1, h1⟩ := hf 1 _ rfl
  obtain ⟨n2, y2, h2⟩ := hf 2 _ rfl
  obtain ⟨n3, y3, h3⟩ := hf 3 _ rfl
  replace h0 : DataW.trod enc Tryz.prog w base (fun _ => true) held n0 24 [a] = some y0 := by rw [c1_ _ (by kernel_rfl)] at h0; exact h0
  replace h1 : DataW.trod enc Tryz.prog w base (fun _ => true) held n1 4 [b] = some y1 := by rw [c1_ _ (by kernel_rfl)] at h1; exact h1
  replace h2 : DataW.trod enc Tryz.prog w base (fun _ => true) held n2 59 [c] = some y2 := by rw [c1_ _ (by kernel_rfl)] at h2; exact h2
  replace h3 : DataW.trod enc Tryz.prog w base (fun _ => true) held n3 59 [d] = some y3 := by rw [c1_ _ (by kernel_rfl)] at h3; exact h3
  obtain ⟨p, e0, _, _⟩ := DataW.trod_int Tryz.underlying24 h0
  obtain ⟨q, e1, _⟩ := DataW.trod_bool Tryz.underlying4 h1
  obtain ⟨A2, k2, x2, e2, l2, g2⟩ := rd_slice (0 : Int) Tryz.underlying59 (by kernel_rfl) (rd_int Tryz.underlying145) h2
  obtain ⟨A3, k3, x3, e3, l3, g3⟩ := rd_slice (0 : Int) Tryz.underlying59 (by kernel_rfl) (rd_int Tryz.underlying145) h3
  obtain rfl : a = .int .i64 p := by simpa using e0
  obtain rfl : b = .bool q := by simpa using e1
  obtain rfl : c = .slice A2 x2.length k2 := by simpa using e2
  obtain rfl : d = .slice A3 x3.length k3 := by simpa using e3
  exact ⟨⟨p, q, x2, x3⟩, A2, k2, A3, k3, rfl, l2, g2, l3, g3⟩
theorem rd63 : Rd enc w base held 63 (k63.K w) := by
  intro fuel cs y h
  obtain ⟨hl, hf⟩ := rd_field Tryz.underlying63 h
  rw [show Tryz.prog.cellsOf 63 = 8 by kernel_rfl] at hl
  obtain ⟨a, b, c, d, e, f, g, i, rfl⟩ := list8 hl
  obtain ⟨n0, y0, h0⟩ := hf 0 _ rfl
  obtain ⟨n1, y1, h1⟩ := hf 1 _ rfl
  obtain ⟨n2, y2, h2⟩ := hf 2 _ rfl
  obtain ⟨n3, y3, h3⟩ := hf 3 _ rfl
  obtain ⟨n4, y4, h4⟩ := hf 4 _ rfl
  replace h0 : DataW.trod enc Tryz.prog w base (fun _ => true) held n0 3 [a] = some y0 := by rw [c1_ _ (by kernel_rfl)] at h0; exact h0
  replace h1 : DataW.trod enc Tryz.prog w base (fun _ => true) held n1 3 [b] = some y1 := by rw [c1_ _ (by kernel_rfl)] at h1; exact h1
  replace h2 : DataW.trod enc Tryz.prog w base (fun _ => true) held n2 3 [c] = some y2 := by rw [c1_ _ (by kernel_rfl)] at h2; exact h2
  replace h3 : DataW.trod enc Tryz.prog w base (fun _ => true) held n3 3 [d] = some y3 := by rw [c1_ _ (by kernel_rfl)] at h3; exact h3
  replace h4 : DataW.trod enc Tryz.prog w base (fun _ => true) held n4 61 [e, f, g, i] = some y4 := by
    rw [c4_ _ (by kernel_rfl)] at h4; exact h4
  obtain ⟨p0, e0, _, _⟩ := DataW.trod_int Tryz.underlying3 h0
  obtain ⟨p1, e1, _, _⟩ := DataW.trod_int Tryz.underlying3 h1
  obtain ⟨p2, e2, _, _⟩ := DataW.trod_int Tryz.underlying3 h2
  obtain ⟨p3, e3, _, _⟩ := DataW.trod_int Tryz.underlying3 h3
  obtain ⟨x, A2, c2, A3, c3, e4, l2, g2, l3, g3⟩ := rd61_cells h4
  obtain rfl : a = .int .i64 p0 := by simpa using e0
  obtain rfl : b = .int .i64 p1 := by simpa using e1
  obtain rfl : c = .int .i64 p2 := by simpa using e2
  obtain rfl : d = .int .i64 p3 := by simpa using e3
  simp only [List.cons.injEq, and_true] at e4
  obtain ⟨rfl, rfl, rfl, rfl⟩ := e4
  exact ⟨⟨p0, p1, p2, p3, x⟩, k63_mk w ⟨p0, p1, p2, p3, x⟩ l2 g2 l3 g3⟩
theorem rd50 : Rd enc w base held 50 (k50.K w) := by
  intro fuel cs y h
  obtain ⟨hl, hf⟩ := rd_field Tryz.underlying50 h
  rw [show Tryz.prog.cellsOf 50 = 5 by kernel_rfl] at hl
  obtain ⟨a, b, c, d, e, rfl⟩ := list5 hl
  obtain ⟨n0, y0, h0⟩ := hf 0 _ rfl
  obtain ⟨n1, y1, h1⟩ := hf 1 _ rfl
  obtain ⟨n2, y2, h2⟩ := hf 2 _ rfl
  obtain ⟨n3, y3, h3⟩ := hf 3 _ rfl
  obtain ⟨n4, y4, h4⟩ := hf 4 _ rfl
  replace h0 : DataW.trod enc Tryz.prog w base (fun _ => true) held n0 9 [a] = some y0 := by rw [c1_ _ (by kernel_rfl)] at h0; exact h0
  replace h1 : DataW.trod enc Tryz.prog w base (fun _ => true) held n1 47 [b] = some y1 := by rw [c1_ _ (by kernel_rfl)] at h1; exact h1
  replace h2 : DataW.trod enc Tryz.prog w base (fun _ => true) held n2 47 [c] = some y2 := by rw [c1_ _ (by kernel_rfl)] at h2; exact h2
  replace h3 : DataW.trod enc Tryz.prog w base (fun _ => true) held n3 3 [d] = some y3 := by rw [c1_ _ (by kernel_rfl)] at h3; exact h3
  replace h4 : DataW.trod enc Tryz.prog w base (fun _ => true) held n4 48 [e] = some y4 := by rw [c1_ _ (by kernel_rfl)] at h4; exact h4
  obtain ⟨p0, e0, _, _⟩ := DataW.trod_string Tryz.underlying9 h0
  obtain ⟨A1, c1, x1, e1, l1, g1⟩ := rd_slice (⟨0, []⟩ : S115) Tryz.underlying47 (by kernel_rfl) rd115 h1
  obtain ⟨A2, c2, x2, e2, l2, g2⟩ := rd_slice (⟨0, []⟩ : S115) Tryz.underlying47 (by kernel_rfl) rd115 h2
  obtain ⟨p3, e3, _, _⟩ := DataW.trod_int Tryz.underlying3 h3
  obtain ⟨A4, c4, x4, e4, l4, g4⟩ := rd_slice (⟨0, 0, 0, 0, ⟨0, false, [], []⟩⟩ : S63) Tryz.underlying48 (by kernel_rfl) rd63 h4
  obtain rfl : a = .string p0 := by simpa using e0
  obtain rfl : b = .slice A1 x1.length c1 := by simpa using e1
  obtain rfl : c = .slice A2 x2.length c2 := by simpa using e2
  obtain rfl : d = .int .i64 p3 := by simpa using e3
  obtain rfl : e = .slice A4 x4.length c4 := by simpa using e4
  exact ⟨⟨p0, x1, x2, p3, x4⟩, k50_mk w ⟨p0, x1, x2, p3, x4⟩ l1 g1 l2 g2 l4 g4⟩
set_option maxRecDepth 100000 in
theorem open_code {r : Reach} {b0 : Nat} {v : Value} {d : DataW H} {p : List MemPlace} (hv : Value.okWide Tryz.prog w r b0 22 v) (h : DataW.Trod enc Tryz.prog w base (fun _ => true) held 22 v d p) :
    ∃ (A : Option Addr) (c : Nat) (l : List S50), v = .slice A l.length c ∧ Kd.C k50 w A l.length l ∧ l.length ≤ c := by
  obtain ⟨a, len, cap, rfl⟩ := okWide_slice Tryz.underlying22 hv
  obtain ⟨fuel, hf⟩ := h
  have hsz : Tryz.prog.cellsOf 50 = k50.sz := (show Tryz.prog.cellsOf 50 = 5 by kernel_rfl)
  obtain ⟨A, c, xs, e, l1, g1⟩ := rd_slice (d := k50) z50 Tryz.underlying22 hsz rd50 hf
  simp only [Value.cells, List.cons.injEq, and_true] at e
  exact ⟨A, c, xs, e, g1, l1⟩
end
end Go.Proofs.YtbkknoipgmlcmaaGreatDoor.P

