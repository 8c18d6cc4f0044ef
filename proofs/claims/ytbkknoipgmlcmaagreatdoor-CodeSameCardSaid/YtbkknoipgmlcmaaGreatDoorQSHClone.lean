import Derived.WalkKit
import Derived.KernelRfl
import Derived.Laws.Externs
import Derived.Laws.Cover3
import Derived.Laws.BitsLemmas
import Derived.Test.YtbkknoipgmlcmaaGreatDoorQSG
set_option linter.unusedVariables false
set_option linter.unusedSimpArgs false
namespace Go.Proofs.YtbkknoipgmlcmaaGreatDoor.P
open Go.RowKit Go.Proofs.YtbkknoipgmlcmaaGreatDoorW.PrintWords Go.Proofs.YtbkknoipgmlcmaaGreatDoorW.PrintLast Go.Proofs.YtbkknoipgmlcmaaGreatDoorW.PrintMore
open Go.Proofs.FX
theorem run_eql_slice_nil {P : Program} (w : World) (t e : TypeId) (a : Option Addr) (l c : Nat) (h : P.underlying t = some (.slice e)) : (binOp .eql t (.slice a l c) (.slice none 0 0)).run P w = .ok (.bool a.isNone) w := by
  simp only [binOp]
  simp [run_equal_slice_nil w t e a l c h]
set_option maxHeartbeats 1000000 in
set_option maxRecDepth 100000 in
theorem clone_none (c : Nat) (w : World) : Calls Tryz.prog 59 #[.slice none 0 c] w fun e w' => e = .returned (.slice none 0 0) ∧ Below w.heap.size w w' := by
  have hu30 := Tryz.underlying30
  have he := run_eql_slice_nil (P := Tryz.prog) w 30 5 none 0 c hu30
  go_enter Tryz.func59, Tryz.ntmps59
  go_wp2
  refine bodyPost_ret (by simp [results, Tryz.results59, go_sem]) rfl ⟨rfl, Below.refl _ _⟩
set_option maxHeartbeats 1000000 in
set_option maxRecDepth 100000 in
theorem clone_some (ad : Addr) (c : Nat) (l : List Int) (w : World) (hr : Kd.C (Kd.int .u8) w (some ad) l.length l) (hl : l.length ≤ 4000000) : Calls Tryz.prog 59 #[.slice (some ad) l.length c] w fun e w' => ∃ v, e = .returned v ∧ Kd.R (Kd.int .u8) 5 w' w.heap.size (fun _ => True) v l ∧ Below w.heap.size w w' := by
  have hu30 := Tryz.underlying30
  obtain ⟨i0, hi, hz0, hz1, hz2⟩ := info_parts info5
  have he := run_eql_slice_nil (P := Tryz.prog) w 30 5 (some ad) l.length c hu30
  go_enter Tryz.func59, Tryz.ntmps59
  go_wp2_with (at_builtin; refine wpList_append_own _ rfl _ _ 30 rfl w.heap.size 5 i0 (.int .u8 0) 1 1 Tryz.underlying30 hi hz0 hz1 hz2 rfl (by decide) (.slice (some ⟨w.heap.size, 0, none⟩) 0 0) 0 [] rfl ?c0 ad l.length c (l.map (Value.int .u8)) rfl (by simp) ?c1 ?c2 ?c3 ?c4 ?c5 ?_)
  case c0 => exact ⟨rfl, .inr ⟨w.heap.size, 0, #[], rfl, Nat.le_refl _, heap_alloc_new w _, Nat.le_refl _, by decide, rfl, rfl⟩⟩
  case c1 =>
    intro j u hj
    have hjl : j < l.length := by
      rcases Nat.lt_or_ge j l.length with h' | h'
      · exact h'
      · rw [List.getElem?_eq_none (by rw [List.length_map]; exact h')] at hj
        cases hj
    obtain ⟨ad', he', hc⟩ := (Kd.reads_of_C (enc := Value.int .u8) (d := (0 : Int)) (h1 := fun _ => rfl) hr).2.2 (by omega)
    injection he' with he'
    subst he'
    rw [List.getElem?_map, List.getElem?_eq_getElem hjl] at hj
    simp only [Option.map_some, Option.some.injEq] at hj
    subst hj
    refine pw_cell_below (below_alloc (Below.refl _ _) _) ?_
    rw [hc j (by omega)]
    simp [List.getD_eq_getElem?_getD, List.getElem?_eq_getElem hjl]
  case c2 =>
    intro u hu
    obtain ⟨x, _, rfl⟩ := List.mem_map.1 hu
    rfl
  case c3 => unfold maxLen; omega
  case c4 => omega
  case c5 => exact (below_alloc (Below.refl w.heap.size w) _).size
  intro v1 w1 hown hg _
  go_wp2
  refine bodyPost_ret (by simp [results, Tryz.results59, go_sem]) rfl ⟨v1, rfl, Kd.R_of_own (enc := Value.int .u8) (by simpa [encs] using hown) (fun _ _ => trivial), (below_alloc (Below.refl w.heap.size w) _).grown hg (below_alloc (Below.refl w.heap.size w) _).size (fun k hk => by simp [Value.ownBlock] at hk; omega)⟩
theorem clone_calls (A : Option Addr) (c : Nat) (l : List Int) (w : World) (hr : Kd.C (Kd.int .u8) w A l.length l) (hl : l.length ≤ 4000000) : Calls Tryz.prog 59 #[.slice A l.length c] w fun e w' => ∃ v, e = .returned v ∧ Kd.R (Kd.int .u8) 5 w' w.heap.size (fun _ => True) v l ∧ Below w.heap.size w w' := by
  cases A with
  | some ad => exact clone_some ad c l w hr hl
  | none =>
    have h0 : l = [] := by
      cases l with
      | nil => rfl
      | cons x xs =>
        obtain ⟨ad, h, _⟩ := hr.2.2 (by simp)
        cases h
    subst h0
    refine (clone_none c w).mono ?_
    rintro e w' ⟨rfl, hb⟩
    exact ⟨_, rfl, Kd.R_nil _ _ _ _ _, hb⟩
end Go.Proofs.YtbkknoipgmlcmaaGreatDoor.P

