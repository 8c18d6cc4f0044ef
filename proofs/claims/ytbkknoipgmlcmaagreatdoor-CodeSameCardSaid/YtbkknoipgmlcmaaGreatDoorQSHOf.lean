import Derived.WalkKit
import Derived.KernelRfl
import Derived.Laws.Externs
import Derived.Laws.BitsLemmas
import Derived.Test.YtbkknoipgmlcmaaGreatDoorQSHSq
set_option linter.unusedVariables false
set_option linter.unusedSimpArgs false
namespace Go.Proofs.YtbkknoipgmlcmaaGreatDoor.P
open Go.RowKit Go.Proofs.YtbkknoipgmlcmaaGreatDoorW.PrintWords Go.Proofs.YtbkknoipgmlcmaaGreatDoorW.PrintLast Go.Proofs.YtbkknoipgmlcmaaGreatDoorW.PrintMore
open Go.Proofs.FX
set_option maxHeartbeats 1000000 in
set_option maxRecDepth 100000 in
theorem of_at (n : Int) (h1 : 1 ≤ n) (h2 : n < 27) (r1 : ByteArray) (r2 r3 r4 : Int) (r5 : Bool) (r6 r7 : Int) (w : World)
    (g0 : ∀ o, (w.alloc o).cell? ⟨0, n.toNat * 7, none⟩ = some (.string r1)) (g1 : ∀ o, (w.alloc o).cell? ⟨0, n.toNat * 7 + 1, none⟩ = some (.int .i64 r2)) (g2 : ∀ o, (w.alloc o).cell? ⟨0, n.toNat * 7 + 2, none⟩ = some (.int .i64 r3))
    (g3 : ∀ o, (w.alloc o).cell? ⟨0, n.toNat * 7 + 3, none⟩ = some (.int .i64 r4)) (g4 : ∀ o, (w.alloc o).cell? ⟨0, n.toNat * 7 + 4, none⟩ = some (.bool r5)) (g5 : ∀ o, (w.alloc o).cell? ⟨0, n.toNat * 7 + 5, none⟩ = some (.int .i64 r6)) (g6 : ∀ o, (w.alloc o).cell? ⟨0, n.toNat * 7 + 6, none⟩ = some (.int .i64 r7)) :
    Calls Tryz.prog 41 #[.int .i64 n] w fun e w' => e = .returned (.tuple #[.agg #[.string r1, .int .i64 r2, .int .i64 r3, .int .i64 r4, .bool r5, .int .i64 r6, .int .i64 r7], .bool true]) ∧ Below w.heap.size w w' := by
  have hu72 := Tryz.underlying72
  have c1 : decide (n < 1) = false := decide_eq_false (by omega)
  have c2 : decide (n ≥ 27) = false := decide_eq_false (by omega)
  have c3 : (0 ≤ n) = True := eq_true (by omega)
  have c4 : (n < 27) = True := eq_true h2
  clear h1 h2
  go_enter Tryz.func41, Tryz.ntmps41
  go_wp2
  refine bodyPost_ret (by simp [results, Tryz.results41, go_sem]) rfl ⟨rfl, ?_⟩
  exact below_alloc (Below.refl _ _) _
def sortsL : List (ByteArray × Int × Int × Int × Bool × Int × Int) := [(⟨#[]⟩, 0, 0, 0, false, 0, 0), (⟨#[110, 117, 109]⟩, 1, 0, 0, true, 0, 0), (⟨#[98, 105, 116]⟩, 1, 3, 0, false, 0, 1), (⟨#[99, 111, 117, 110, 116]⟩, 1, 3, 0, false, -1, 8), (⟨#[99, 111, 112, 121]⟩, 1, 1, 0, false, 0, 0), (⟨#[97, 100, 100]⟩, 1, 1, 1, false, 0, 0), (⟨#[115, 117, 98]⟩, 1, 1, 1, false, 0, 0), (⟨#[110, 101, 103]⟩, 1, 1, 0, false, 0, 0), (⟨#[109, 117, 108]⟩, 1, 1, 1, false, 0, 0), (⟨#[100, 105, 118]⟩, 1, 1, 1, false, 0, 0), (⟨#[108, 101, 115, 115]⟩, 1, 1, 1, false, 0, 0), (⟨#[115, 97, 109, 101]⟩, 1, 1, 1, false, 0, 0), (⟨#[97, 110, 100]⟩, 1, 1, 1, false, 0, 0), (⟨#[111, 114]⟩, 1, 1, 1, false, 0, 0), (⟨#[110, 111, 116]⟩, 1, 1, 0, false, 0, 0), (⟨#[116, 111, 110, 117, 109]⟩, 1, 1, 0, false, 0, 0), (⟨#[110, 101, 119]⟩, 1, 3, 0, false, 1, 8), (⟨#[108, 111, 97, 100]⟩, 1, 1, 1, false, 0, 0), (⟨#[115, 116, 111, 114, 101]⟩, 1, 1, 1, false, 0, 0), (⟨#[115, 116, 101, 112]⟩, 1, 3, 0, false, -1, 1), (⟨#[106, 117, 109, 112]⟩, 2, 0, 0, false, 0, 0), (⟨#[117, 110, 116, 105, 108]⟩, 2, 1, 3, false, -1, 8), (⟨#[116, 101, 115, 116]⟩, 1, 2, 2, false, 0, 0), (⟨#[115, 112, 111, 105, 108]⟩, 1, 1, 0, false, 0, 0), (⟨#[98, 108, 111, 116]⟩, 1, 1, 0, false, 0, 0), (⟨#[99, 97, 108, 108]⟩, 7, 4, 5, false, 0, 0), (⟨#[114, 101, 116, 117, 114, 110]⟩, 6, 0, 0, false, 0, 0)]
def code_of.f (n : Int) : Option (ByteArray × Int × Int × Int × Bool × Int × Int × Bool) :=
  if 1 ≤ n ∧ n < 27 then (match sortsL[n.toNat]? with | some t => some (t.1, t.2.1, t.2.2.1, t.2.2.2.1, t.2.2.2.2.1, t.2.2.2.2.2.1, t.2.2.2.2.2.2, true) | none => none) else some (⟨#[]⟩, 0, 0, 0, false, 0, 0, false)
theorem sort_cells : ∀ k : Nat, k < 27 → ∃ t, sortsL[k]? = some t ∧ sortsC[k * 7]? = some (.string t.1) ∧ sortsC[k * 7 + 1]? = some (.int .i64 t.2.1) ∧ sortsC[k * 7 + 2]? = some (.int .i64 t.2.2.1) ∧ sortsC[k * 7 + 3]? = some (.int .i64 t.2.2.2.1) ∧
    sortsC[k * 7 + 4]? = some (.bool t.2.2.2.2.1) ∧ sortsC[k * 7 + 5]? = some (.int .i64 t.2.2.2.2.2.1) ∧ sortsC[k * 7 + 6]? = some (.int .i64 t.2.2.2.2.2.2)
  | 0, _ => ⟨_, rfl, rfl, rfl, rfl, rfl, rfl, rfl, rfl⟩
  | 1, _ => ⟨_, rfl, rfl, rfl, rfl, rfl, rfl, rfl, rfl⟩
  | 2, _ => ⟨_, rfl, rfl, rfl, rfl, rfl, rfl, rfl, rfl⟩
  | 3, _ => ⟨_, rfl, rfl, rfl, rfl, rfl, rfl, rfl, rfl⟩
  | 4, _ => ⟨_, rfl, rfl, rfl, rfl, rfl, rfl, rfl, rfl⟩
  | 5, _ => ⟨_, rfl, rfl, rfl, rfl, rfl, rfl, rfl, rfl⟩
  | 6, _ => ⟨_, rfl, rfl, rfl, rfl, rfl, rfl, rfl, rfl⟩
  | 7, _ => ⟨_, rfl, rfl, rfl, rfl, rfl, rfl, rfl, rfl⟩
  | 8, _ => ⟨_, rfl, rfl, rfl, rfl, rfl, rfl, rfl, rfl⟩
  | 9, _ => ⟨_, rfl, rfl, rfl, rfl, rfl, rfl, rfl, rfl⟩
  | 10, _ => ⟨_, rfl, rfl, rfl, rfl, rfl, rfl, rfl, rfl⟩
  | 11, _ => ⟨_, rfl, rfl, rfl, rfl, rfl, rfl, rfl, rfl⟩
  | 12, _ => ⟨_, rfl, rfl, rfl, rfl, rfl, rfl, rfl, rfl⟩
  | 13, _ => ⟨_, rfl, rfl, rfl, rfl, rfl, rfl, rfl, rfl⟩
  | 14, _ => ⟨_, rfl, rfl, rfl, rfl, rfl, rfl, rfl, rfl⟩
  | 15, _ => ⟨_, rfl, rfl, rfl, rfl, rfl, rfl, rfl, rfl⟩
  | 16, _ => ⟨_, rfl, rfl, rfl, rfl, rfl, rfl, rfl, rfl⟩
  | 17, _ => ⟨_, rfl, rfl, rfl, rfl, rfl, rfl, rfl, rfl⟩
  | 18, _ => ⟨_, rfl, rfl, rfl, rfl, rfl, rfl, rfl, rfl⟩
  | 19, _ => ⟨_, rfl, rfl, rfl, rfl, rfl, rfl, rfl, rfl⟩
  | 20, _ => ⟨_, rfl, rfl, rfl, rfl, rfl, rfl, rfl, rfl⟩
  | 21, _ => ⟨_, rfl, rfl, rfl, rfl, rfl, rfl, rfl, rfl⟩
  | 22, _ => ⟨_, rfl, rfl, rfl, rfl, rfl, rfl, rfl, rfl⟩
  | 23, _ => ⟨_, rfl, rfl, rfl, rfl, rfl, rfl, rfl, rfl⟩
  | 24, _ => ⟨_, rfl, rfl, rfl, rfl, rfl, rfl, rfl, rfl⟩
  | 25, _ => ⟨_, rfl, rfl, rfl, rfl, rfl, rfl, rfl, rfl⟩
  | 26, _ => ⟨_, rfl, rfl, rfl, rfl, rfl, rfl, rfl, rfl⟩
  | k + 27, h => absurd h (by omega)
set_option maxHeartbeats 1000000 in
set_option maxRecDepth 100000 in
theorem of_out (n : Int) (h : ¬ (1 ≤ n ∧ n < 27)) (w : World) : Calls Tryz.prog 41 #[.int .i64 n] w fun e w' => e = .returned (.tuple #[.agg #[.string ⟨#[]⟩, .int .i64 0, .int .i64 0, .int .i64 0, .bool false, .int .i64 0, .int .i64 0], .bool false]) ∧ Below w.heap.size w w' := by
  have hu72 := Tryz.underlying72
  by_cases h1 : n < 1
  · have c1 : decide (n < 1) = true := decide_eq_true h1
    clear h h1
    go_enter Tryz.func41, Tryz.ntmps41
    go_wp2
    refine bodyPost_ret (by simp [results, Tryz.results41, go_sem]) rfl ⟨rfl, ?_⟩
    exact below_alloc (Below.refl _ _) _
  · have c1 : decide (n < 1) = false := decide_eq_false h1
    have c2 : decide (n ≥ 27) = true := decide_eq_true (by omega)
    clear h h1
    go_enter Tryz.func41, Tryz.ntmps41
    go_wp2
    refine bodyPost_ret (by simp [results, Tryz.results41, go_sem]) rfl ⟨rfl, ?_⟩
    exact below_alloc (Below.refl _ _) _
theorem code_of.calls (a0 : Int) (r1 : ByteArray) (r2 r3 r4 : Int) (r5 : Bool) (r6 r7 : Int) (r8 : Bool) (w : World) (hG : GW w) (h : code_of.f a0 = some (r1, r2, r3, r4, r5, r6, r7, r8)) :
    Calls Tryz.prog 41 #[.int .i64 a0] w fun e w' => e = .returned (.tuple #[.agg #[.string r1, .int .i64 r2, .int .i64 r3, .int .i64 r4, .bool r5, .int .i64 r6, .int .i64 r7], .bool r8]) ∧ Below w.heap.size w w' := by
  unfold code_of.f at h
  by_cases hr : 1 ≤ a0 ∧ a0 < 27
  · rw [if_pos hr] at h
    obtain ⟨t, ht, e0, e1, e2, e3, e4, e5, e6⟩ := sort_cells a0.toNat (by omega)
    rw [ht] at h
    obtain ⟨t1, t2, t3, t4, t5, t6, t7⟩ := t
    simp only [Option.some.injEq, Prod.mk.injEq] at h
    obtain ⟨rfl, rfl, rfl, rfl, rfl, rfl, rfl, rfl⟩ := h
    have up : ∀ (i : Nat) (v : Value), sortsC[i]? = some v → ∀ o, (w.alloc o).cell? ⟨0, i, none⟩ = some v := fun i v e o => pw_cell_below (below_alloc (Below.refl _ _) o) (hG.g0 i v e)
    exact of_at a0 hr.1 hr.2 _ _ _ _ _ _ _ w (up _ _ e0) (up _ _ e1) (up _ _ e2) (up _ _ e3) (up _ _ e4) (up _ _ e5) (up _ _ e6)
  · rw [if_neg hr] at h
    simp only [Option.some.injEq, Prod.mk.injEq] at h
    obtain ⟨rfl, rfl, rfl, rfl, rfl, rfl, rfl, rfl⟩ := h
    exact of_out a0 hr w
end Go.Proofs.YtbkknoipgmlcmaaGreatDoor.P

