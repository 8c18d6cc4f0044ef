import Derived.ProofKit
import Derived.LaidMore
import Derived.OpenShut
import Derived.ShutString
import Derived.SliceStrings
import Derived.Stop.Joined
import Derived.Lay
import Derived.Test.YtbkknoipgmlcmaaGreatDoorQSG
import Derived.Test.YtbkknoipgmlcmaaGreatDoorTie
set_option linter.unusedVariables false
set_option linter.unusedSimpArgs false
namespace Go.Proofs.YtbkknoipgmlcmaaGreatDoor.P
open Go.ChangeShapes Go.WideShapes Go.ChangeAt Go.RowKit
open Go.Proofs.YtbkknoipgmlcmaaGreatDoorW.PrintWords Go.Proofs.YtbkknoipgmlcmaaGreatDoorW.PrintLast Go.Proofs.YtbkknoipgmlcmaaGreatDoorW.PrintMore
abbrev laidL : List (String × DataW Unit) := [("math/bits.deBruijn32tab", Rows.laid_math_bits_deBruijn32tab), ("math/bits.deBruijn64tab", Rows.laid_math_bits_deBruijn64tab), ("internal/strconv.uint64pow10", Rows.laid_internal_strconv_uint64pow10), ("unicode/utf8.acceptRanges", Rows.laid_unicode_utf8_acceptRanges), ("fluxion/frac.faults", Rows.laid_fluxion_frac_faults), ("fluxion/shape.kinds", Rows.laid_fluxion_shape_kinds), ("fluxion/code.sorts", Rows.laid_fluxion_code_sorts), ("unicode/utf8.first", Rows.laid_unicode_utf8_first)]
theorem own : ownKnob Tryz.prog.godebug = none := by kernel_rfl
theorem gSorts : Tryz.prog.globalNamed "fluxion/code.sorts" = some 0 := by kernel_rfl
theorem gKinds : Tryz.prog.globalNamed "fluxion/shape.kinds" = some 1 := by kernel_rfl
theorem tSorts : (Tryz.prog.globals[0]?).map (·.type) = some 149 := by kernel_rfl
theorem tKinds : (Tryz.prog.globals[1]?).map (·.type) = some 186 := by kernel_rfl
theorem door_met (os : Os) (args : Array Value) : laidMetH Tryz.prog laidL ((World.laidAll Tryz.prog os laidL).forCall (fun _ _ => 0) ⟨#[], args, []⟩).memory := by
  rw [MakeChecks.laidMetH_plain _ _ _ (by kernel_rfl)]
  exact laidMet_laidAll args (by kernel_rfl) (by kernel_rfl)
def litV : DataW Unit → List Value
  | .lit (.string l) => [.string ⟨l.toArray⟩]
  | .lit (.int k n) => [.int k n]
  | .lit (.bool b) => [.bool b]
  | _ => []
def aggV : DataW Unit → List Value
  | .agg ds => ds.flatMap litV
  | _ => []
theorem chunks {α : Type} (E : α → List Value) (c : Nat) : ∀ (ds : List α) (cs : List Value), cs.length = ds.length * c → (∀ (i : Nat) (d : α), ds[i]? = some d → (cs.drop (i * c)).take c = E d) → cs = ds.flatMap E
  | [], cs, hl, _ => by
    rw [List.length_nil, Nat.zero_mul] at hl
    exact List.eq_nil_of_length_eq_zero hl
  | d :: ds, cs, hl, h => by
    have h0 := h 0 d rfl
    rw [Nat.zero_mul, List.drop_zero] at h0
    have hr := chunks E c ds (cs.drop c) (by rw [List.length_drop, hl, List.length_cons, Nat.succ_mul]; omega) (fun i d' hi => by
      have := h (i + 1) d' hi
      rw [Nat.succ_mul, Nat.add_comm, ← List.drop_drop] at this
      exact this)
    rw [List.flatMap_cons, ← h0, ← hr, List.take_append_drop]
section
variable {w : World} {base : Nat} {sp : Nat → Bool} {held : Bool}
theorem lit_str {t : TypeId} {m : Nat} {cs : List Value} {y : DataW Unit × List MemPlace} (ht : Tryz.prog.underlying t = some .string) (h : DataW.trod (fun _ => ()) Tryz.prog w base sp held m t cs = some y) : cs = litV y.1 := by
  obtain ⟨s, rfl, rfl, _⟩ := DataW.trod_string ht h
  simp [litV]
theorem lit_int {t : TypeId} {k : IntKind} {m : Nat} {cs : List Value} {y : DataW Unit × List MemPlace} (ht : Tryz.prog.underlying t = some (.int k)) (h : DataW.trod (fun _ => ()) Tryz.prog w base sp held m t cs = some y) : cs = litV y.1 := by
  obtain ⟨n, rfl, rfl, _⟩ := DataW.trod_int ht h
  rfl
theorem lit_bool {t : TypeId} {m : Nat} {cs : List Value} {y : DataW Unit × List MemPlace} (ht : Tryz.prog.underlying t = some .bool) (h : DataW.trod (fun _ => ()) Tryz.prog w base sp held m t cs = some y) : cs = litV y.1 := by
  obtain ⟨b, rfl, rfl⟩ := DataW.trod_bool ht h
  rfl
theorem flat_array {t e : TypeId} {n c fuel : Nat} {cs : List Value} {x : DataW Unit × List MemPlace} (E : DataW Unit → List Value) (ht : Tryz.prog.underlying t = some (.array n e)) (hc : Tryz.prog.cellsOf e = c) (hct : Tryz.prog.cellsOf t = n * c)
    (hel : ∀ m cs' y, DataW.trod (fun _ => ()) Tryz.prog w base sp held m e cs' = some y → cs' = E y.1) (h : DataW.trod (fun _ => ()) Tryz.prog w base sp held fuel t cs = some x) : ∃ ds, x.1 = .agg ds ∧ cs = ds.flatMap E := by
  obtain ⟨xs, m, _, rfl, hl, hxl, hf⟩ := DataW.trod_array ht h
  refine ⟨xs.map (·.1), rfl, chunks E c _ _ (by rw [hl, hct, List.length_map, hxl]) (fun i d hi => ?_)⟩
  rw [List.getElem?_map] at hi
  obtain ⟨y, hy, rfl⟩ := Option.map_eq_some_iff.1 hi
  have hlt : i < n := by
    rw [← hxl]
    exact (List.getElem?_eq_some_iff.1 hy).1
  have := hf i hlt
  rw [hy, hc] at this
  exact hel _ _ _ this
theorem sort_row_cells {fuel : Nat} {cs : List Value} {y : DataW Unit × List MemPlace} (h : DataW.trod (fun _ => ()) Tryz.prog w base sp held fuel 72 cs = some y) : cs = aggV y.1 := by
  obtain ⟨xs, m, _, rfl, hl, hxl, hf⟩ := DataW.trod_struct Tryz.underlying72 h
  have c9 : Tryz.prog.cellsOf 9 = 1 := by kernel_rfl
  have c70 : Tryz.prog.cellsOf 70 = 1 := by kernel_rfl
  have c4 : Tryz.prog.cellsOf 4 = 1 := by kernel_rfl
  have c3 : Tryz.prog.cellsOf 3 = 1 := by kernel_rfl
  have c72 : Tryz.prog.cellsOf 72 = 7 := by kernel_rfl
  have hxl7 : xs.length = 7 := hxl
  refine chunks litV 1 (xs.map (·.1)) cs (by rw [hl, c72, List.length_map, hxl7]) (fun i d hi => ?_)
  rw [List.getElem?_map] at hi
  obtain ⟨y, hy, rfl⟩ := Option.map_eq_some_iff.1 hi
  have hlt : i < 7 := by
    rw [← hxl7]
    exact (List.getElem?_eq_some_iff.1 hy).1
  match i, hlt, hy with
  | 0, _, hy => exact lit_str Tryz.underlying9 (m := m) (by have := (show DataW.trod (fun _ => ()) Tryz.prog w base sp held m 9 ((cs.drop 0).take (Tryz.prog.cellsOf 9)) = xs[0]? from hf 0 _ rfl); rw [hy, c9] at this; exact this)
  | 1, _, hy => exact lit_int Tryz.underlying70 (m := m) (by have := (show DataW.trod (fun _ => ()) Tryz.prog w base sp held m 70 ((cs.drop 1).take (Tryz.prog.cellsOf 70)) = xs[1]? from hf 1 _ rfl); rw [hy, c70] at this; exact this)
  | 2, _, hy => exact lit_int Tryz.underlying70 (m := m) (by have := (show DataW.trod (fun _ => ()) Tryz.prog w base sp held m 70 ((cs.drop 2).take (Tryz.prog.cellsOf 70)) = xs[2]? from hf 2 _ rfl); rw [hy, c70] at this; exact this)
  | 3, _, hy => exact lit_int Tryz.underlying70 (m := m) (by have := (show DataW.trod (fun _ => ()) Tryz.prog w base sp held m 70 ((cs.drop 3).take (Tryz.prog.cellsOf 70)) = xs[3]? from hf 3 _ rfl); rw [hy, c70] at this; exact this)
  | 4, _, hy => exact lit_bool Tryz.underlying4 (m := m) (by have := (show DataW.trod (fun _ => ()) Tryz.prog w base sp held m 4 ((cs.drop 4).take (Tryz.prog.cellsOf 4)) = xs[4]? from hf 4 _ rfl); rw [hy, c4] at this; exact this)
  | 5, _, hy => exact lit_int Tryz.underlying3 (m := m) (by have := (show DataW.trod (fun _ => ()) Tryz.prog w base sp held m 3 ((cs.drop 5).take (Tryz.prog.cellsOf 3)) = xs[5]? from hf 5 _ rfl); rw [hy, c3] at this; exact this)
  | 6, _, hy => exact lit_int Tryz.underlying3 (m := m) (by have := (show DataW.trod (fun _ => ()) Tryz.prog w base sp held m 3 ((cs.drop 6).take (Tryz.prog.cellsOf 3)) = xs[6]? from hf 6 _ rfl); rw [hy, c3] at this; exact this)
end
theorem gw_of {W : World} (h : laidMetH Tryz.prog laidL W) : GW W := by
  rw [MakeChecks.laidMetH_plain _ _ _ (by kernel_rfl)] at h
  obtain ⟨ps, ⟨_, _, _, _, _, _, _, _, _, _, ⟨_, _, _, _, _, _, _, _, _, _, ⟨_, _, _, _, _, _, _, _, _, _, ⟨_, _, _, _, _, _, _, _, _, _, ⟨_, _, _, _, _, _, _, _, _, _, ⟨g1, t1, cs1, f1, p1, q1, hg1, ht1, hv1, hd1, ⟨g0, t0, cs0, f0, p0, q0, hg0, ht0, hv0, hd0, _, _⟩, _⟩, _⟩, _⟩, _⟩, _⟩, _⟩, _, _⟩ := h
  obtain rfl := Option.some.inj (gSorts.symm.trans hg0)
  obtain rfl := Option.some.inj (gKinds.symm.trans hg1)
  obtain rfl := Option.some.inj (tSorts.symm.trans ht0)
  obtain rfl := Option.some.inj (tKinds.symm.trans ht1)
  obtain ⟨ds1, e1, hc1⟩ := flat_array litV Tryz.underlying186 (c := 1) (by kernel_rfl) (by kernel_rfl) (fun _ _ _ h => lit_str Tryz.underlying9 h) hd1
  obtain ⟨ds0, e0, hc0⟩ := flat_array aggV Tryz.underlying149 (c := 7) (by kernel_rfl) (by kernel_rfl) (fun _ _ _ h => sort_row_cells h) hd0
  have k1 : cs1.toList = kindsC := by
    rw [hc1]
    injection e1 with e1
    rw [← e1]
    rfl
  have k0 : cs0.toList = sortsC := by
    rw [hc0]
    injection e0 with e0
    rw [← e0]
    rfl
  refine ⟨fun i v e => ?_, fun i v e => ?_⟩
  · rw [World.var?_cell hg0 hv0 i, ← Array.getElem?_toList, k0]
    exact e
  · rw [World.var?_cell hg1 hv1 i, ← Array.getElem?_toList, k1]
    exact e
end Go.Proofs.YtbkknoipgmlcmaaGreatDoor.P

