import Derived.ProofKit
import Derived.LaidMore
import Derived.OpenShut
import Derived.ShutString
import Derived.SliceStrings
import Derived.Stop.Joined
import Derived.Test.YteobbnehdlcphaaDoorQJG
import Derived.Test.YteobbnehdlcphaaDoorTie
namespace Go.Proofs.YteobbnehdlcphaaDoor.P
open Go.ChangeShapes Go.WideShapes Go.ChangeAt Go.RowKit
open Go.Proofs.YteobbnehdlcphaaDoorW.PrintWords Go.Proofs.YteobbnehdlcphaaDoorW.PrintLast Go.Proofs.YteobbnehdlcphaaDoorW.PrintMore
abbrev laidL : List (String × DataW Unit) := [("fluxion/token.words", Rows.laid_fluxion_token_words), ("fluxion/token.signs", Rows.laid_fluxion_token_signs)]
theorem own : ownKnob Tryd.prog.godebug = none := by kernel_rfl
theorem gWords : Tryd.prog.globalNamed "fluxion/token.words" = some 0 := by kernel_rfl
theorem gSigns : Tryd.prog.globalNamed "fluxion/token.signs" = some 1 := by kernel_rfl
theorem tWords : (Tryd.prog.globals[0]?).map (·.type) = some 60 := by kernel_rfl
theorem tSigns : (Tryd.prog.globals[1]?).map (·.type) = some 60 := by kernel_rfl
theorem cells9 : Tryd.prog.cellsOf 9 = 1 := by kernel_rfl
theorem door_met (os : Os) (args : Array Value) : laidMetH Tryd.prog laidL ((World.doorLaid Tryd.prog 19 os).forCall (fun _ _ => 0) ⟨#[], args, []⟩).memory :=
  laidMetH_of_parts3 (fuel := 8) (laidMet_of_run' 8 (by kernel_rfl) (by kernel_rfl)) (by kernel_rfl) (by kernel_rfl)
theorem strs_inj : ∀ {a b : List ByteArray}, (ChangeShapes.strs a : List (DataW Unit)) = ChangeShapes.strs b → a = b
  | [], [], _ => rfl
  | [], _ :: _, h => by cases h
  | _ :: _, [], h => by cases h
  | x :: a, y :: b, h => by
    simp only [ChangeShapes.strs, List.map_cons, List.cons.injEq, DataW.lit.injEq, Lit.string.injEq] at h
    have h1 : x = y := by
      rcases x with ⟨⟨x⟩⟩; rcases y with ⟨⟨y⟩⟩
      simpa using h.1
    rw [h1, strs_inj (a := a) (b := b) h.2]
theorem table_of {W : World} {g : Nat} {cs : Array Value} {n : String} {fuel : Nat} {l : List ByteArray} {p : List MemPlace} (hg : Tryd.prog.globalNamed n = some g) (hv : W.var? Tryd.prog n = some cs)
    (hd : DataW.trod (fun _ => ()) Tryd.prog W 0 (fun _ => true) false fuel 60 cs.toList = some (.slice (ChangeShapes.strs l) [], p)) :
    ∃ A c, W.cell? ⟨g, 0, none⟩ = some (.slice A l.length c) ∧ Kd.C Kd.string W A l.length l ∧ l.length ≤ c := by
  rcases ChangeShapes.open_strings Tryd.underlying60 Tryd.underlying9 cells9 hd with ⟨_, hx⟩ | ⟨a, len, cap, ss, hcs, _, hlc, hcm, hss, hx, hcell, _⟩
  · cases hx
  · simp only [Prod.mk.injEq, DataW.slice.injEq] at hx
    simp only [if_true] at hss
    have h1 := strs_inj hx.1.1
    have h2 : ss.drop len = [] := (strs_inj (a := []) hx.1.2).symm
    rw [List.drop_eq_nil_iff] at h2
    have h3 : ss.take len = ss := List.take_of_length_le h2
    have h4 : len = l.length := by rw [h1, h3]; omega
    rw [h3] at h1
    subst h1
    have hc : W.cell? ⟨g, 0, none⟩ = some (.slice (some a) len cap) := by
      have := World.var?_cell hg hv 0
      rw [Array.eq_one_of_toList hcs] at this
      simpa using this
    refine ⟨some a, cap, by rw [← h4]; exact hc, ?_, by omega⟩
    refine Kd.C_of_reads (d := ByteArray.empty) (h1 := fun _ => rfl) ⟨rfl, ?_, fun _ => ⟨a, rfl, fun j hj => hcell j hj⟩⟩
    have : maxLen ≤ 9223372036854775807 := by decide
    omega
theorem words_laid : (Rows.laid_fluxion_token_words : DataW Unit) = .slice (ChangeShapes.strs wordsL) [] := rfl
theorem signs_laid : (Rows.laid_fluxion_token_signs : DataW Unit) = .slice (ChangeShapes.strs signsL) [] := rfl
theorem gw_of {W : World} (h : laidMetH Tryd.prog laidL W) : GW W := by
  rw [MakeChecks.laidMetH_plain _ _ _ (by kernel_rfl)] at h
  obtain ⟨ps, ⟨g0, t0, cs0, f0, p0, q0, hg0, ht0, hv0, hd0, ⟨g1, t1, cs1, f1, p1, q1, hg1, ht1, hv1, hd1, _, _⟩, _⟩, _, _⟩ := h
  obtain rfl := Option.some.inj (gWords.symm.trans hg0)
  obtain rfl := Option.some.inj (gSigns.symm.trans hg1)
  obtain rfl := Option.some.inj (tWords.symm.trans ht0)
  obtain rfl := Option.some.inj (tSigns.symm.trans ht1)
  rw [words_laid] at hd0
  rw [signs_laid] at hd1
  exact ⟨table_of hg0 hv0 hd0, table_of hg1 hv1 hd1⟩
end Go.Proofs.YteobbnehdlcphaaDoor.P

