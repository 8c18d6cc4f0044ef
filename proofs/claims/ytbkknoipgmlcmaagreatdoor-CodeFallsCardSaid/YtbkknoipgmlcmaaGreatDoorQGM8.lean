import Derived.Laws.Externs
import Derived.Test.YtbkknoipgmlcmaaGreatDoorQGM7
set_option linter.all false
set_option maxHeartbeats 8000000
set_option maxRecDepth 100000
namespace Go.Proofs.QP
open Go.RowKit Go.Proofs.PW Go.Proofs.PL Go.Proofs.PM Go.Proofs.FX
theorem zdK (n : Int) (h1 : 1 ≤ n) (h2 : n < 27) (r1 : ByteArray) (r2 r3 r4 : Int) (r5 : Bool) (r6 r7 : Int) (w : World)
 (g0 : ∀ o, (w.alloc o).cell? ⟨0, n.toNat * 7, none⟩ = some (.string r1)) (g1 : ∀ o, (w.alloc o).cell? ⟨0, n.toNat * 7 + 1, none⟩ = some (.int .i64 r2)) (g2 : ∀ o, (w.alloc o).cell? ⟨0, n.toNat * 7 + 2, none⟩ = some (.int .i64 r3))
 (g3 : ∀ o, (w.alloc o).cell? ⟨0, n.toNat * 7 + 3, none⟩ = some (.int .i64 r4)) (g4 : ∀ o, (w.alloc o).cell? ⟨0, n.toNat * 7 + 4, none⟩ = some (.bool r5)) (g5 : ∀ o, (w.alloc o).cell? ⟨0, n.toNat * 7 + 5, none⟩ = some (.int .i64 r6)) (g6 : ∀ o, (w.alloc o).cell? ⟨0, n.toNat * 7 + 6, none⟩ = some (.int .i64 r7)) :
 Calls Tryz.prog 41 #[.int .i64 n] w fun e w' => e = .returned (.tuple #[.agg #[.string r1, .int .i64 r2, .int .i64 r3, .int .i64 r4, .bool r5, .int .i64 r6, .int .i64 r7], .bool true]) ∧ Below w.heap.size w w' := by
 have hu72 := Tryz.underlying72
 have c1 : decide (n < 1) = false := decide_eq_false (by omega)
 have c2 : decide (n ≥ 27) = false := decide_eq_false (by omega)
 have c3 : (0 ≤ n) = True := eq_true (by omega)
 have c4 : (n < 27) = True := eq_true h2
 clear h1 h2
 go_enter Tryz.func41, Tryz.ntmps41
 go_wp2
 refine bodyPost_ret (by simp [results, Tryz.results41, go_sem]) rfl ⟨rfl, ?_⟩
 exact zl (Below.refl _ _) _
def zb4 : List (ByteArray × Int × Int × Int × Bool × Int × Int) := [(⟨#[]⟩, 0, 0, 0, false, 0, 0), (⟨#[110, 117, 109]⟩, 1, 0, 0, true, 0, 0), (⟨#[98, 105, 116]⟩, 1, 3, 0, false, 0, 1), (⟨#[99, 111, 117, 110, 116]⟩, 1, 3, 0, false, -1, 8), (⟨#[99, 111, 112, 121]⟩, 1, 1, 0, false, 0, 0), (⟨#[97, 100, 100]⟩, 1, 1, 1, false, 0, 0), (⟨#[115, 117, 98]⟩, 1, 1, 1, false, 0, 0), (⟨#[110, 101, 103]⟩, 1, 1, 0, false, 0, 0), (⟨#[109, 117, 108]⟩, 1, 1, 1, false, 0, 0), (⟨#[100, 105, 118]⟩, 1, 1, 1, false, 0, 0), (⟨#[108, 101, 115, 115]⟩, 1, 1, 1, false, 0, 0), (⟨#[115, 97, 109, 101]⟩, 1, 1, 1, false, 0, 0), (⟨#[97, 110, 100]⟩, 1, 1, 1, false, 0, 0), (⟨#[111, 114]⟩, 1, 1, 1, false, 0, 0), (⟨#[110, 111, 116]⟩, 1, 1, 0, false, 0, 0), (⟨#[116, 111, 110, 117, 109]⟩, 1, 1, 0, false, 0, 0), (⟨#[110, 101, 119]⟩, 1, 3, 0, false, 1, 8), (⟨#[108, 111, 97, 100]⟩, 1, 1, 1, false, 0, 0), (⟨#[115, 116, 111, 114, 101]⟩, 1, 1, 1, false, 0, 0), (⟨#[115, 116, 101, 112]⟩, 1, 3, 0, false, -1, 1), (⟨#[106, 117, 109, 112]⟩, 2, 0, 0, false, 0, 0), (⟨#[117, 110, 116, 105, 108]⟩, 2, 1, 3, false, -1, 8), (⟨#[116, 101, 115, 116]⟩, 1, 2, 2, false, 0, 0), (⟨#[115, 112, 111, 105, 108]⟩, 1, 1, 0, false, 0, 0), (⟨#[98, 108, 111, 116]⟩, 1, 1, 0, false, 0, 0), (⟨#[99, 97, 108, 108]⟩, 7, 4, 5, false, 0, 0), (⟨#[114, 101, 116, 117, 114, 110]⟩, 6, 0, 0, false, 0, 0)]
def xP.f (n : Int) : Option (ByteArray × Int × Int × Int × Bool × Int × Int × Bool) :=
 if 1 ≤ n ∧ n < 27 then (match zb4[n.toNat]? with | some t => some (t.1, t.2.1, t.2.2.1, t.2.2.2.1, t.2.2.2.2.1, t.2.2.2.2.2.1, t.2.2.2.2.2.2, true) | none => none) else some (⟨#[]⟩, 0, 0, 0, false, 0, 0, false)
theorem z8a : ∀ k : Nat, k < 27 → ∃ t, zb4[k]? = some t ∧ z1R[k * 7]? = some (.string t.1) ∧ z1R[k * 7 + 1]? = some (.int .i64 t.2.1) ∧ z1R[k * 7 + 2]? = some (.int .i64 t.2.2.1) ∧ z1R[k * 7 + 3]? = some (.int .i64 t.2.2.2.1) ∧
 z1R[k * 7 + 4]? = some (.bool t.2.2.2.2.1) ∧ z1R[k * 7 + 5]? = some (.int .i64 t.2.2.2.2.2.1) ∧ z1R[k * 7 + 6]? = some (.int .i64 t.2.2.2.2.2.2)
 | 0, _ => ⟨_, rfl, rfl, rfl, rfl, rfl, rfl, rfl, rfl⟩
 | 1, _ => ⟨_, rfl, rfl, rfl, rfl, rfl, rfl, rfl, rfl⟩
 | 2, _ => ⟨_, rfl, rfl, rfl, rfl, rfl, rfl, rfl, rfl⟩
 | 3, _ => ⟨_, rfl, rfl, rfl, rfl, rfl, rfl, rfl, rfl⟩
 | 4, _ => ⟨_, rfl, rfl, rfl, rfl, rfl, rfl, rfl, rfl⟩
 | 5, _ => ⟨_, rfl, rfl, rfl, rfl, rfl, rfl, rfl, rfl⟩
 | 6, _ => ⟨_, rfl, rfl, rfl, rfl, rfl, rfl, rfl, rfl⟩
 | 7, _ => ⟨_, rfl, rfl, rfl, rfl, rfl, rfl, rfl, rfl⟩
 | 8, _ => ⟨_, rfl, rfl, rfl, rfl, rfl, rfl, rfl, rfl⟩
 | 9, _ => ⟨_, rfl, rfl, rfl, rfl, rfl, rfl, rfl, rfl⟩
 | 10, _ => ⟨_, rfl, rfl, rfl, rfl, rfl, rfl, rfl, rfl⟩
 | 11, _ => ⟨_, rfl, rfl, rfl, rfl, rfl, rfl, rfl, rfl⟩
 | 12, _ => ⟨_, rfl, rfl, rfl, rfl, rfl, rfl, rfl, rfl⟩
 | 13, _ => ⟨_, rfl, rfl, rfl, rfl, rfl, rfl, rfl, rfl⟩
 | 14, _ => ⟨_, rfl, rfl, rfl, rfl, rfl, rfl, rfl, rfl⟩
 | 15, _ => ⟨_, rfl, rfl, rfl, rfl, rfl, rfl, rfl, rfl⟩
 | 16, _ => ⟨_, rfl, rfl, rfl, rfl, rfl, rfl, rfl, rfl⟩
 | 17, _ => ⟨_, rfl, rfl, rfl, rfl, rfl, rfl, rfl, rfl⟩
 | 18, _ => ⟨_, rfl, rfl, rfl, rfl, rfl, rfl, rfl, rfl⟩
 | 19, _ => ⟨_, rfl, rfl, rfl, rfl, rfl, rfl, rfl, rfl⟩
 | 20, _ => ⟨_, rfl, rfl, rfl, rfl, rfl, rfl, rfl, rfl⟩
 | 21, _ => ⟨_, rfl, rfl, rfl, rfl, rfl, rfl, rfl, rfl⟩
 | 22, _ => ⟨_, rfl, rfl, rfl, rfl, rfl, rfl, rfl, rfl⟩
 | 23, _ => ⟨_, rfl, rfl, rfl, rfl, rfl, rfl, rfl, rfl⟩
 | 24, _ => ⟨_, rfl, rfl, rfl, rfl, rfl, rfl, rfl, rfl⟩
 | 25, _ => ⟨_, rfl, rfl, rfl, rfl, rfl, rfl, rfl, rfl⟩
 | 26, _ => ⟨_, rfl, rfl, rfl, rfl, rfl, rfl, rfl, rfl⟩
 | k + 27, h => absurd h (by omega)
theorem zcZ (n : Int) (h : ¬ (1 ≤ n ∧ n < 27)) (w : World) : Calls Tryz.prog 41 #[.int .i64 n] w fun e w' => e = .returned (.tuple #[.agg #[.string ⟨#[]⟩, .int .i64 0, .int .i64 0, .int .i64 0, .bool false, .int .i64 0, .int .i64 0], .bool false]) ∧ Below w.heap.size w w' := by
 have hu72 := Tryz.underlying72
 by_cases h1 : n < 1
 ·have c1 : decide (n < 1) = true := decide_eq_true h1
  clear h h1
  go_enter Tryz.func41, Tryz.ntmps41
  go_wp2
  refine bodyPost_ret (by simp [results, Tryz.results41, go_sem]) rfl ⟨rfl, ?_⟩
  exact zl (Below.refl _ _) _
 ·have c1 : decide (n < 1) = false := decide_eq_false h1
  have c2 : decide (n ≥ 27) = true := decide_eq_true (by omega)
  clear h h1
  go_enter Tryz.func41, Tryz.ntmps41
  go_wp2
  refine bodyPost_ret (by simp [results, Tryz.results41, go_sem]) rfl ⟨rfl, ?_⟩
  exact zl (Below.refl _ _) _
theorem xP.calls (a0 : Int) (r1 : ByteArray) (r2 r3 r4 : Int) (r5 : Bool) (r6 r7 : Int) (r8 : Bool) (w : World) (hG : GW w) (h : xP.f a0 = some (r1, r2, r3, r4, r5, r6, r7, r8)) :
 Calls Tryz.prog 41 #[.int .i64 a0] w fun e w' => e = .returned (.tuple #[.agg #[.string r1, .int .i64 r2, .int .i64 r3, .int .i64 r4, .bool r5, .int .i64 r6, .int .i64 r7], .bool r8]) ∧ Below w.heap.size w w' := by
 unfold xP.f at h
 by_cases hr : 1 ≤ a0 ∧ a0 < 27
 ·rw [if_pos hr] at h
  obtain ⟨t, ht, e0, e1, e2, e3, e4, e5, e6⟩ := z8a a0.toNat (by omega)
  rw [ht] at h
  obtain ⟨t1, t2, t3, t4, t5, t6, t7⟩ := t
  simp only [Option.some.injEq, Prod.mk.injEq] at h
  obtain ⟨rfl, rfl, rfl, rfl, rfl, rfl, rfl, rfl⟩ := h
  have up : ∀ (i : Nat) (v : Value), z1R[i]? = some v → ∀ o, (w.alloc o).cell? ⟨0, i, none⟩ = some v := fun i v e o => ze (zl (Below.refl _ _) o) (hG.g0 i v e)
  exact zdK a0 hr.1 hr.2 _ _ _ _ _ _ _ w (up _ _ e0) (up _ _ e1) (up _ _ e2) (up _ _ e3) (up _ _ e4) (up _ _ e5) (up _ _ e6)
 ·rw [if_neg hr] at h
  simp only [Option.some.injEq, Prod.mk.injEq] at h
  obtain ⟨rfl, rfl, rfl, rfl, rfl, rfl, rfl, rfl⟩ := h
  exact zcZ a0 hr w
section
section
attribute [local go_sem] yd zV
attribute [local go_sem] xf xg xD xE yI yJ xl xm
def xe.f  : Option ((List (S97))) := some (([(⟨(⟨#[]⟩ : ByteArray), 0, 0, 0, false⟩ : S97), (⟨(⟨#[110, 117, 109]⟩ : ByteArray), 1, 0, 0, true⟩ : S97), (⟨(⟨#[98, 105, 116]⟩ : ByteArray), 1, 5, 0, false⟩ : S97), (⟨(⟨#[99, 111, 117, 110, 116]⟩ : ByteArray), 1, 6, 0, false⟩ : S97), (⟨(⟨#[99, 111, 112, 121]⟩ : ByteArray), 1, 1, 0, false⟩ : S97), (⟨(⟨#[97, 100, 100]⟩ : ByteArray), 1, 1, 1, false⟩ : S97), (⟨(⟨#[115, 117, 98]⟩ : ByteArray), 1, 1, 1, false⟩ : S97), (⟨(⟨#[110, 101, 103]⟩ : ByteArray), 1, 1, 0, false⟩ : S97), (⟨(⟨#[109, 117, 108]⟩ : ByteArray), 1, 1, 1, false⟩ : S97), (⟨(⟨#[100, 105, 118]⟩ : ByteArray), 1, 1, 1, false⟩ : S97), (⟨(⟨#[108, 101, 115, 115]⟩ : ByteArray), 1, 1, 1, false⟩ : S97), (⟨(⟨#[115, 97, 109, 101]⟩ : ByteArray), 1, 1, 1, false⟩ : S97), (⟨(⟨#[97, 110, 100]⟩ : ByteArray), 1, 1, 1, false⟩ : S97), (⟨(⟨#[111, 114]⟩ : ByteArray), 1, 1, 1, false⟩ : S97), (⟨(⟨#[110, 111, 116]⟩ : ByteArray), 1, 1, 0, false⟩ : S97), (⟨(⟨#[116, 111, 110, 117, 109]⟩ : ByteArray), 1, 1, 0, false⟩ : S97), (⟨(⟨#[110, 101, 119]⟩ : ByteArray), 1, 7, 0, false⟩ : S97), (⟨(⟨#[108, 111, 97, 100]⟩ : ByteArray), 1, 1, 1, false⟩ : S97), (⟨(⟨#[115, 116, 111, 114, 101]⟩ : ByteArray), 1, 1, 1, false⟩ : S97), (⟨(⟨#[115, 116, 101, 112]⟩ : ByteArray), 1, 8, 0, false⟩ : S97), (⟨(⟨#[106, 117, 109, 112]⟩ : ByteArray), 2, 0, 0, false⟩ : S97), (⟨(⟨#[117, 110, 116, 105, 108]⟩ : ByteArray), 2, 1, 6, false⟩ : S97), (⟨(⟨#[116, 101, 115, 116]⟩ : ByteArray), 1, 2, 2, false⟩ : S97), (⟨(⟨#[115, 112, 111, 105, 108]⟩ : ByteArray), 1, 1, 0, false⟩ : S97), (⟨(⟨#[98, 108, 111, 116]⟩ : ByteArray), 1, 1, 0, false⟩ : S97), (⟨(⟨#[99, 97, 108, 108]⟩ : ByteArray), 3, 4, 4, false⟩ : S97), (⟨(⟨#[114, 101, 116, 117, 114, 110]⟩ : ByteArray), 4, 0, 0, false⟩ : S97)] : List (S97)))
theorem xe.calls  (r : List (S97)) (w : World) (h : xe.f  = some r) :
 Calls Tryz.prog 110 #[] w fun e w' => ∃ v0_ : Value, e = .returned (v0_) ∧ Kd.R k97 97 w' w.heap.size (fun _ => True) v0_ r ∧ Below w.heap.size w w' := by
 have hu97 := Tryz.underlying97
 have HB := hR w
 have H := h
 unfold xe.f at H
 clear h
 replace H := yS H
 obtain ⟨y228, Ny228, H⟩ := H
 obtain rfl := sI H
 go_enter Tryz.func110, Tryz.ntmps110
 go_wp2_with (first | ((with_reducible refine zq (N := 28) rfl ?_); refine Kd.z1q k97 _ 97 ?hg (N := 28) ?hd (xs := ([(⟨(⟨#[]⟩ : ByteArray), 0, 0, 0, false⟩ : S97), (⟨(⟨#[110, 117, 109]⟩ : ByteArray), 1, 0, 0, true⟩ : S97), (⟨(⟨#[98, 105, 116]⟩ : ByteArray), 1, 5, 0, false⟩ : S97), (⟨(⟨#[99, 111, 117, 110, 116]⟩ : ByteArray), 1, 6, 0, false⟩ : S97), (⟨(⟨#[99, 111, 112, 121]⟩ : ByteArray), 1, 1, 0, false⟩ : S97), (⟨(⟨#[97, 100, 100]⟩ : ByteArray), 1, 1, 1, false⟩ : S97), (⟨(⟨#[115, 117, 98]⟩ : ByteArray), 1, 1, 1, false⟩ : S97), (⟨(⟨#[110, 101, 103]⟩ : ByteArray), 1, 1, 0, false⟩ : S97), (⟨(⟨#[109, 117, 108]⟩ : ByteArray), 1, 1, 1, false⟩ : S97), (⟨(⟨#[100, 105, 118]⟩ : ByteArray), 1, 1, 1, false⟩ : S97), (⟨(⟨#[108, 101, 115, 115]⟩ : ByteArray), 1, 1, 1, false⟩ : S97), (⟨(⟨#[115, 97, 109, 101]⟩ : ByteArray), 1, 1, 1, false⟩ : S97), (⟨(⟨#[97, 110, 100]⟩ : ByteArray), 1, 1, 1, false⟩ : S97), (⟨(⟨#[111, 114]⟩ : ByteArray), 1, 1, 1, false⟩ : S97), (⟨(⟨#[110, 111, 116]⟩ : ByteArray), 1, 1, 0, false⟩ : S97), (⟨(⟨#[116, 111, 110, 117, 109]⟩ : ByteArray), 1, 1, 0, false⟩ : S97), (⟨(⟨#[110, 101, 119]⟩ : ByteArray), 1, 7, 0, false⟩ : S97), (⟨(⟨#[108, 111, 97, 100]⟩ : ByteArray), 1, 1, 1, false⟩ : S97), (⟨(⟨#[115, 116, 111, 114, 101]⟩ : ByteArray), 1, 1, 1, false⟩ : S97), (⟨(⟨#[115, 116, 101, 112]⟩ : ByteArray), 1, 8, 0, false⟩ : S97), (⟨(⟨#[106, 117, 109, 112]⟩ : ByteArray), 2, 0, 0, false⟩ : S97), (⟨(⟨#[117, 110, 116, 105, 108]⟩ : ByteArray), 2, 1, 6, false⟩ : S97), (⟨(⟨#[116, 101, 115, 116]⟩ : ByteArray), 1, 2, 2, false⟩ : S97), (⟨(⟨#[115, 112, 111, 105, 108]⟩ : ByteArray), 1, 1, 0, false⟩ : S97), (⟨(⟨#[98, 108, 111, 116]⟩ : ByteArray), 1, 1, 0, false⟩ : S97), (⟨(⟨#[99, 97, 108, 108]⟩ : ByteArray), 3, 4, 4, false⟩ : S97), (⟨(⟨#[114, 101, 116, 117, 114, 110]⟩ : ByteArray), 4, 0, 0, false⟩ : S97)] : List (S97))) (inner := [.string (⟨#[]⟩ : ByteArray), .int .i64 0, .int .i64 0, .int .i64 0, .bool false, .string (⟨#[110, 117, 109]⟩ : ByteArray), .int .i64 1, .int .i64 0, .int .i64 0, .bool true, .string (⟨#[98, 105, 116]⟩ : ByteArray), .int .i64 1, .int .i64 5, .int .i64 0, .bool false, .string (⟨#[99, 111, 117, 110, 116]⟩ : ByteArray), .int .i64 1, .int .i64 6, .int .i64 0, .bool false, .string (⟨#[99, 111, 112, 121]⟩ : ByteArray), .int .i64 1, .int .i64 1, .int .i64 0, .bool false, .string (⟨#[97, 100, 100]⟩ : ByteArray), .int .i64 1, .int .i64 1, .int .i64 1, .bool false, .string (⟨#[115, 117, 98]⟩ : ByteArray), .int .i64 1, .int .i64 1, .int .i64 1, .bool false, .string (⟨#[110, 101, 103]⟩ : ByteArray), .int .i64 1, .int .i64 1, .int .i64 0, .bool false, .string (⟨#[109, 117, 108]⟩ : ByteArray), .int .i64 1, .int .i64 1, .int .i64 1, .bool false, .string (⟨#[100, 105, 118]⟩ : ByteArray), .int .i64 1, .int .i64 1, .int .i64 1, .bool false, .string (⟨#[108, 101, 115, 115]⟩ : ByteArray), .int .i64 1, .int .i64 1, .int .i64 1, .bool false, .string (⟨#[115, 97, 109, 101]⟩ : ByteArray), .int .i64 1, .int .i64 1, .int .i64 1, .bool false, .string (⟨#[97, 110, 100]⟩ : ByteArray), .int .i64 1, .int .i64 1, .int .i64 1, .bool false, .string (⟨#[111, 114]⟩ : ByteArray), .int .i64 1, .int .i64 1, .int .i64 1, .bool false, .string (⟨#[110, 111, 116]⟩ : ByteArray), .int .i64 1, .int .i64 1, .int .i64 0, .bool false, .string (⟨#[116, 111, 110, 117, 109]⟩ : ByteArray), .int .i64 1, .int .i64 1, .int .i64 0, .bool false, .string (⟨#[110, 101, 119]⟩ : ByteArray), .int .i64 1, .int .i64 7, .int .i64 0, .bool false, .string (⟨#[108, 111, 97, 100]⟩ : ByteArray), .int .i64 1, .int .i64 1, .int .i64 1, .bool false, .string (⟨#[115, 116, 111, 114, 101]⟩ : ByteArray), .int .i64 1, .int .i64 1, .int .i64 1, .bool false, .string (⟨#[115, 116, 101, 112]⟩ : ByteArray), .int .i64 1, .int .i64 8, .int .i64 0, .bool false, .string (⟨#[106, 117, 109, 112]⟩ : ByteArray), .int .i64 2, .int .i64 0, .int .i64 0, .bool false, .string (⟨#[117, 110, 116, 105, 108]⟩ : ByteArray), .int .i64 2, .int .i64 1, .int .i64 6, .bool false, .string (⟨#[116, 101, 115, 116]⟩ : ByteArray), .int .i64 1, .int .i64 2, .int .i64 2, .bool false, .string (⟨#[115, 112, 111, 105, 108]⟩ : ByteArray), .int .i64 1, .int .i64 1, .int .i64 0, .bool false, .string (⟨#[98, 108, 111, 116]⟩ : ByteArray), .int .i64 1, .int .i64 1, .int .i64 0, .bool false, .string (⟨#[99, 97, 108, 108]⟩ : ByteArray), .int .i64 3, .int .i64 4, .int .i64 4, .bool false, .string (⟨#[114, 101, 116, 117, 114, 110]⟩ : ByteArray), .int .i64 4, .int .i64 0, .int .i64 0, .bool false]) (ok := fun _ => True) (okp := fun _ => True) ?hr ?hp (fun _ hk => hk) trivial (Below.refl _ _) (Nat.le_refl _) (by simp) ?_; (case hd => rfl); (case hg => rfl); (case hr => first | (go_simp; done) | (go_simp; rfl)); (case hp => exact (zQ.c5 (xj _ _ _ _) (zQ.c5 (xj _ _ _ _) (zQ.c5 (xj _ _ _ _) (zQ.c5 (xj _ _ _ _) (zQ.c5 (xj _ _ _ _) (zQ.c5 (xj _ _ _ _) (zQ.c5 (xj _ _ _ _) (zQ.c5 (xj _ _ _ _) (zQ.c5 (xj _ _ _ _) (zQ.c5 (xj _ _ _ _) (zQ.c5 (xj _ _ _ _) (zQ.c5 (xj _ _ _ _) (zQ.c5 (xj _ _ _ _) (zQ.c5 (xj _ _ _ _) (zQ.c5 (xj _ _ _ _) (zQ.c5 (xj _ _ _ _) (zQ.c5 (xj _ _ _ _) (zQ.c5 (xj _ _ _ _) (zQ.c5 (xj _ _ _ _) (zQ.c5 (xj _ _ _ _) (zQ.c5 (xj _ _ _ _) (zQ.c5 (xj _ _ _ _) (zQ.c5 (xj _ _ _ _) (zQ.c5 (xj _ _ _ _) (zQ.c5 (xj _ _ _ _) (zQ.c5 (xj _ _ _ _) (zQ.c5 (xj _ _ _ _) (zQ.none _ _))))))))))))))))))))))))))))); intro v229 w1 ho2 hb hg_ hnew_; clear hg_ hnew_; (first | rw [← Ny228.out] at ho2 | (simp only [Int.reduceToNat] at ho2; rw [← Ny228.out] at ho2)); have HO230 := aS (Kd.zL ho2 (zg (bl HB))); replace HB := hB_ HB hb; clear hb ho2))
 go_ret
 exact ⟨_, re, by exact rA HO230.out, bl HB⟩
def yr.f (a0 : Int) : Option (ByteArray × Int × Int × Int × Bool × Bool) := (xe.f).bind fun t232 => (if a0 < 1 then (some ((⟨#[]⟩ : ByteArray), 0, 0, 0, false, false)) else (if a0 ≥ (t232.length : Int) then (some ((⟨#[]⟩ : ByteArray), 0, 0, 0, false, false)) else (if 0 ≤ a0 then (if a0 < (t232.length : Int) then (some ((z0W t232 a0).f0, (z0W t232 a0).f1, (z0W t232 a0).f2, (z0W t232 a0).f3, (z0W t232 a0).f4, true)) else (none)) else (none))))
theorem yr.calls (a0 : Int) (r1 : ByteArray) (r2 : Int) (r3 : Int) (r4 : Int) (r5 : Bool) (r6 : Bool) (w : World) (h : yr.f a0 = some (r1, r2, r3, r4, r5, r6)) :
 Calls Tryz.prog 57 #[.int .i64 a0] w fun e w' => e = .returned (.tuple #[.agg #[.string r1, .int .i64 r2, .int .i64 r3, .int .i64 r4, .bool r5], .bool r6]) ∧ Below w.heap.size w w' := by
 have hu97 := Tryz.underlying97
 have HB := hR w
 have H := h
 unfold yr.f at H
 clear h
 replace H := bA H
 obtain ⟨t232, A2, H⟩ := H
 by_cases c3 : a0 < 1
 ·rw [if_pos c3] at H
  have c3b0 := dT c3
  clear c3
  simp only [Option.some.injEq, Prod.mk.injEq] at H
  obtain ⟨rfl, rfl, rfl, rfl, rfl, rfl⟩ := H
  go_enter Tryz.func57, Tryz.ntmps57
  go_wp2_with (first | ((with_reducible refine zq (N := 2) rfl ?_); (try (refine yq (by rfl) ?_; dsimp only)); refine bx (N := 2) (cs := #[.string (⟨#[]⟩ : ByteArray), .int .i64 0, .int .i64 0, .int .i64 0, .bool false]) (t := 97) ?_; intro gb231 hg w4 hbox hb; have BK231 := aS (hbox); have GW231 := (gz hg HB : Aside0 (w.heap.size ≤ gb231)); have GE231 := (gz hg HB : Aside0 (w.heap.size ≤ gb231)); replace HB := hB_ HB hb; clear hb hbox hg) | ((with_reducible refine zi (f := 110) rfl ?_); refine gl 5 Tryz.func110 #[] ?_; (with_reducible refine (xe.calls  t232 _ A2.out).mono ?_); rintro e w5 ⟨v233, rfl, ho0, hb⟩; refine ⟨_, rfl, ?_⟩; have HO234 := aS (Kd.zL (Kd.z7m ho0 (bj BK231)) (zg (bl HB))); replace BK231 := bb BK231 hb; replace HB := hB_ HB hb; clear hb ho0; obtain ⟨_, _, _, _, _, _, _, _, _, _⟩ := cf5 BK231.out))
  refine bodyPost_ret (z2g rfl _ _ gb231 97 #[.string (⟨#[]⟩ : ByteArray), .int .i64 0, .int .i64 0, .int .i64 0, .bool false] (0, 0) _ rfl (bp BK231) Tryz.underlying97 rfl (by kernel_rfl)) rfl ?_
  exact ⟨re, bl HB⟩
 rw [if_neg c3] at H
 have c3b0 := dF c3
 clear c3
 by_cases c7 : a0 ≥ (t232.length : Int)
 ·rw [if_pos c7] at H
  have c7b0 := dT c7
  clear c7
  simp only [Option.some.injEq, Prod.mk.injEq] at H
  obtain ⟨rfl, rfl, rfl, rfl, rfl, rfl⟩ := H
  go_enter Tryz.func57, Tryz.ntmps57
  go_wp2_with (first | ((with_reducible refine zq (N := 2) rfl ?_); (try (refine yq (by rfl) ?_; dsimp only)); refine bx (N := 2) (cs := #[.string (⟨#[]⟩ : ByteArray), .int .i64 0, .int .i64 0, .int .i64 0, .bool false]) (t := 97) ?_; intro gb231 hg w8 hbox hb; have BK231 := aS (hbox); have GW231 := (gz hg HB : Aside0 (w.heap.size ≤ gb231)); have GE231 := (gz hg HB : Aside0 (w.heap.size ≤ gb231)); replace HB := hB_ HB hb; clear hb hbox hg) | ((with_reducible refine zi (f := 110) rfl ?_); refine gl 5 Tryz.func110 #[] ?_; (with_reducible refine (xe.calls  t232 _ A2.out).mono ?_); rintro e w9 ⟨v233, rfl, ho0, hb⟩; refine ⟨_, rfl, ?_⟩; have HO234 := aS (Kd.zL (Kd.z7m ho0 (bj BK231)) (zg (bl HB))); replace BK231 := bb BK231 hb; replace HB := hB_ HB hb; clear hb ho0; obtain ⟨Ao10, co10, eo10⟩ := Kd.zB HO234.out; subst eo10; obtain ⟨_, _, _, _, _, _, _, _, _, _⟩ := cf5 BK231.out))
  refine bodyPost_ret (z2g rfl _ _ gb231 97 #[.string (⟨#[]⟩ : ByteArray), .int .i64 0, .int .i64 0, .int .i64 0, .bool false] (0, 0) _ rfl (bp BK231) Tryz.underlying97 rfl (by kernel_rfl)) rfl ?_
  exact ⟨re, bl HB⟩
 rw [if_neg c7] at H
 have c7b0 := dF c7
 clear c7
 replace H := iD_ H
 obtain ⟨c12b0, H⟩ := H
 replace H := iD_ H
 obtain ⟨c13b0, H⟩ := H
 simp only [Option.some.injEq, Prod.mk.injEq] at H
 obtain ⟨rfl, rfl, rfl, rfl, rfl, rfl⟩ := H
 go_enter Tryz.func57, Tryz.ntmps57
 go_wp2_with (first | ((with_reducible refine zq (N := 2) rfl ?_); (try (refine yq (by rfl) ?_; dsimp only)); refine bx (N := 2) (cs := #[.string (⟨#[]⟩ : ByteArray), .int .i64 0, .int .i64 0, .int .i64 0, .bool false]) (t := 97) ?_; intro gb231 hg w14 hbox hb; have BK231 := aS (hbox); have GW231 := (gz hg HB : Aside0 (w.heap.size ≤ gb231)); have GE231 := (gz hg HB : Aside0 (w.heap.size ≤ gb231)); replace HB := hB_ HB hb; clear hb hbox hg) | ((with_reducible refine zi (f := 110) rfl ?_); refine gl 5 Tryz.func110 #[] ?_; (with_reducible refine (xe.calls  t232 _ A2.out).mono ?_); rintro e w15 ⟨v233, rfl, ho0, hb⟩; refine ⟨_, rfl, ?_⟩; have HO234 := aS (Kd.zL (Kd.z7m ho0 (bj BK231)) (zg (bl HB))); replace BK231 := bb BK231 hb; replace HB := hB_ HB hb; clear hb ho0; obtain ⟨Ao16, co16, eo16⟩ := Kd.zB HO234.out; subst eo16; have p235 : 0 ≤ (a0 : Int) := oa; have q235 : a0 < (t232.length : Int) := oa; obtain ⟨ad235, e235, hx235_0, hx235_1, hx235_2, hx235_3, hx235_4⟩ := zcK (Kd.zz HO234.out).2.2 a0 p235 q235; cases e235; replace p235 := eq_true p235; replace q235 := eq_true q235; obtain ⟨_, _, _, _, _, _, _, _, _, _⟩ := cf5 BK231.out))
 refine bodyPost_ret (z2g rfl _ _ gb231 97 #[.string ((z0W t232 a0).f0), .int .i64 ((z0W t232 a0).f1), .int .i64 ((z0W t232 a0).f2), .int .i64 ((z0W t232 a0).f3), .bool ((z0W t232 a0).f4)] (0, 0) _ rfl (bp BK231) Tryz.underlying97 rfl (by kernel_rfl)) rfl ?_
 exact ⟨re, bl HB⟩
def ye.f (a0 : Int) (a1 : Int) : Option (Bool) := if a0 = 0 then (some (a1 == 0)) else (if a0 = 5 then (if a1 = 0 then (some true) else (some (a1 == 1))) else (if a0 = 6 then (if a1 ≥ (-1) then (some (decide (a1 ≤ 8))) else (some false)) else (if a0 = 7 then (if a1 ≥ 1 then (some (decide (a1 ≤ 8))) else (some false)) else (if a0 = 8 then (if a1 = 1 then (some true) else (some (a1 == (-1)))) else (some true)))))
theorem ye.calls (a0 : Int) (a1 : Int) (r : Bool) (w : World) (h : ye.f a0 a1 = some r) :
 Calls Tryz.prog 97 #[.int .i64 a0, .int .i64 a1] w fun e w' => e = .returned (.bool r) ∧ zj w w' := by
 have H := h
 unfold ye.f at H
 clear h
 by_cases c3 : a0 = 0
 ·rw [if_pos c3] at H
  have c3b0 := bT c3
  have c3b1 := nF c3
  clear c3
  obtain rfl := sI H
  go_enter Tryz.func97, Tryz.ntmps97
  go_wp2
  go_ret
  exact ⟨by first | rfl | (simp; done) | (simp [*]; done), by repeat (first | exact zj.refl _ | apply zj.step)⟩
 rw [if_neg c3] at H
 have c3b0 := bF c3
 have c3b1 := nT c3
 by_cases c4 : a0 = 5
 ·rw [if_pos c4] at H
  have c4b0 := bT c4
  have c4b1 := nF c4
  clear c4
  by_cases c5 : a1 = 0
  ·rw [if_pos c5] at H
   have c5b0 := bT c5
   have c5b1 := nF c5
   clear c5
   obtain rfl := sI H
   go_enter Tryz.func97, Tryz.ntmps97
   go_wp2
   go_ret
   exact ⟨by first | rfl | (simp; done) | (simp [*]; done), by repeat (first | exact zj.refl _ | apply zj.step)⟩
  ·rw [if_neg c5] at H
   have c5b0 := bF c5
   have c5b1 := nT c5
   obtain rfl := sI H
   go_enter Tryz.func97, Tryz.ntmps97
   go_wp2
   go_ret
   exact ⟨by first | rfl | (simp; done) | (simp [*]; done), by repeat (first | exact zj.refl _ | apply zj.step)⟩
 rw [if_neg c4] at H
 have c4b0 := bF c4
 have c4b1 := nT c4
 by_cases c6 : a0 = 6
 ·rw [if_pos c6] at H
  have c6b0 := bT c6
  have c6b1 := nF c6
  clear c6
  by_cases c7 : a1 ≥ (-1)
  ·rw [if_pos c7] at H
   have c7b0 := dT c7
   clear c7
   obtain rfl := sI H
   go_enter Tryz.func97, Tryz.ntmps97
   go_wp2
   go_ret
   exact ⟨by first | rfl | (simp; done) | (simp [*]; done), by repeat (first | exact zj.refl _ | apply zj.step)⟩
  ·rw [if_neg c7] at H
   have c7b0 := dF c7
   clear c7
   obtain rfl := sI H
   go_enter Tryz.func97, Tryz.ntmps97
   go_wp2
   go_ret
   exact ⟨by first | rfl | (simp; done) | (simp [*]; done), by repeat (first | exact zj.refl _ | apply zj.step)⟩
 rw [if_neg c6] at H
 have c6b0 := bF c6
 have c6b1 := nT c6
 by_cases c8 : a0 = 7
 ·rw [if_pos c8] at H
  have c8b0 := bT c8
  have c8b1 := nF c8
  clear c8
  by_cases c9 : a1 ≥ 1
  ·rw [if_pos c9] at H
   have c9b0 := dT c9
   clear c9
   obtain rfl := sI H
   go_enter Tryz.func97, Tryz.ntmps97
   go_wp2
   go_ret
   exact ⟨by first | rfl | (simp; done) | (simp [*]; done), by repeat (first | exact zj.refl _ | apply zj.step)⟩
  ·rw [if_neg c9] at H
   have c9b0 := dF c9
   clear c9
   obtain rfl := sI H
   go_enter Tryz.func97, Tryz.ntmps97
   go_wp2
   go_ret
   exact ⟨by first | rfl | (simp; done) | (simp [*]; done), by repeat (first | exact zj.refl _ | apply zj.step)⟩
 rw [if_neg c8] at H
 have c8b0 := bF c8
 have c8b1 := nT c8
 by_cases c10 : a0 = 8; rotate_left
 ·rw [if_neg c10] at H
  have c10b0 := bF c10
  have c10b1 := nT c10
  obtain rfl := sI H
  go_enter Tryz.func97, Tryz.ntmps97
  go_wp2
  go_ret
  exact ⟨by first | rfl | (simp; done) | (simp [*]; done), by repeat (first | exact zj.refl _ | apply zj.step)⟩
 rw [if_pos c10] at H
 have c10b0 := bT c10
 have c10b1 := nF c10
 clear c10
 by_cases c11 : a1 = 1
 ·rw [if_pos c11] at H
  have c11b0 := bT c11
  have c11b1 := nF c11
  clear c11
  obtain rfl := sI H
  go_enter Tryz.func97, Tryz.ntmps97
  go_wp2
  go_ret
  exact ⟨by first | rfl | (simp; done) | (simp [*]; done), by repeat (first | exact zj.refl _ | apply zj.step)⟩
 ·rw [if_neg c11] at H
  have c11b0 := bF c11
  have c11b1 := nT c11
  obtain rfl := sI H
  go_enter Tryz.func97, Tryz.ntmps97
  go_wp2
  go_ret
  exact ⟨by first | rfl | (simp; done) | (simp [*]; done), by repeat (first | exact zj.refl _ | apply zj.step)⟩
def yu.f (l0 : List Int) : Option (Bool) := if (l0.length : Int) ≤ 128 then (if (l0.length : Int) = 0 then (some true) else (if 0 ≤ (wrap64 ((l0.length : Int) - 1)) then (if (wrap64 ((l0.length : Int) - 1)) < (l0.length : Int) then (some ((rd l0 (wrap64 ((l0.length : Int) - 1))) != 0)) else (none)) else (none))) else (some false)
theorem yu.calls (A0 : Option Addr) (c0 : Nat) (l0 : List Int) (r : Bool) (w : World) (hr0 : Kd.C (Kd.int .u32) w A0 l0.length l0) (hc0 : l0.length ≤ c0) (h : yu.f l0 = some r) :
 Calls Tryz.prog 143 #[.slice A0 l0.length c0] w fun e w' => e = .returned (.bool r) ∧ zj w w' := by
 have HR0 := aS hr0
 have HC0 := aS hc0
 clear hr0 hc0
 have H := h
 unfold yu.f at H
 clear h
 by_cases c2 : (l0.length : Int) ≤ 128; rotate_left
 ·rw [if_neg c2] at H
  have c2b0 := dF c2
  have c2b1 : decide (l0.length ≤ 128) = false := dF (by omega)
  clear c2
  obtain rfl := sI H
  go_enter Tryz.func143, Tryz.ntmps143
  go_wp2
  go_ret
  exact ⟨by first | rfl | (simp; done) | (simp [*]; done), by repeat (first | exact zj.refl _ | apply zj.step)⟩
 rw [if_pos c2] at H
 have c2b0 := dT c2
 have c2b1 : decide (l0.length ≤ 128) = true := dT (by omega)
 clear c2
 by_cases c3 : (l0.length : Int) = 0
 ·rw [if_pos c3] at H
  have c3b0 := bT c3
  have c3b1 := nF c3
  clear c3
  obtain rfl := sI H
  go_enter Tryz.func143, Tryz.ntmps143
  go_wp2
  go_ret
  exact ⟨by first | rfl | (simp; done) | (simp [*]; done), by repeat (first | exact zj.refl _ | apply zj.step)⟩
 rw [if_neg c3] at H
 have c3b0 := bF c3
 have c3b1 := nT c3
 have c3b2 : ¬ (l0 = []) := fun h_ => c3 (by rw [h_]; rfl)
 obtain ⟨ji4, hji4⟩ : ∃ j_ : Int, (wrap64 ((l0.length : Int) - 1)) = j_ := ⟨_, rfl⟩
 simp only [hji4] at H
 have hji4w : (IntKind.i64.wrap ((l0.length : Int) - 1)) = ji4 := (yh _).trans hji4
 replace H := iD_ H
 obtain ⟨c5b0, H⟩ := H
 replace H := iD_ H
 obtain ⟨c6b0, H⟩ := H
 obtain rfl := sI H
 obtain ⟨ad236, e236, hx236_0⟩ := Kd.zT HR0.out (ji4) oa oa
 cases e236
 have p236 : (0 ≤ ((ji4) : Int)) = True := tO
 have q236 : ((ji4) < (l0.length : Int)) = True := tO
 go_enter Tryz.func143, Tryz.ntmps143
 go_wp2
 go_ret
 exact ⟨by first | rfl | (simp; done) | (simp only [← hji4] <;> (first | rfl | simp)) | (simp [*]; done), by repeat (first | exact zj.refl _ | apply zj.step)⟩
def zx.l0 : Nat → List Int → Int → Option (List Int)
 | 0, _, _ => none
 | k + 1, x0, x3 => if x3 > 0 then (if 0 ≤ (wrap64 (x3 - 1)) then (if (wrap64 (x3 - 1)) < (x0.length : Int) then (if (rd x0 (wrap64 (x3 - 1))) = 0 then (zx.l0 k x0 (wrap64 (x3 - 1))) else (if 0 ≤ x3 then (if x3 ≤ (x0.length : Int) then (some (x0.take (x3 : Int).toNat)) else (none)) else (none))) else (none)) else (none)) else (if 0 ≤ x3 then (if x3 ≤ (x0.length : Int) then (some (x0.take (x3 : Int).toNat)) else (none)) else (none))
def zx.f (k : Nat) (l0 : List Int) : Option (List Int) := zx.l0 k l0 (l0.length : Int)
theorem zx.calls (k : Nat) (P0_ : Nat → Prop) (u9000_ : Value) (l0 : List Int) (r : List Int) (w0 w : World) (hB : Below w0.heap.size w0 w) (ho0 : Kd.R (Kd.int .u32) 145 w w0.heap.size P0_ u9000_ l0) (h : zx.f k l0 = some r) :
 Calls Tryz.prog 150 #[u9000_] w fun e w' => ∃ v0_ : Value, e = .returned (v0_) ∧ Kd.R (Kd.int .u32) 145 w' w0.heap.size (fun k_ => (P0_ k_ ∨ w.heap.size ≤ k_)) v0_ r ∧ Below w0.heap.size w0 w' ∧ Kept w w' (fun k_ => P0_ k_) := by
 have HO0 := aS (show Kd.R (Kd.int .u32) 145 w w0.heap.size (fun k_ => (P0_ k_ ∨ w.heap.size ≤ k_)) u9000_ l0 from Kd.zw ho0 (fun k_ hk => (.inl hk)))
 have HK := aS (Kept.refl w (fun k_ => P0_ k_))
 have HW0 := aS hB.size
 have HB := aS hB
 clear hB
 have H := h
 unfold zx.f at H
 clear h
 have H' := aS H
 clear H
 obtain ⟨Ao2, co2, eo2⟩ := Kd.zB HO0.out
 subst eo2
 go_enter Tryz.func150, Tryz.ntmps150
 go_wp2
 go_loopg [3] k (fun kq v3 w' => ∃ (x3_1 : Int), v3 = .int .i64 x3_1 ∧ Aside0 (zx.l0 kq l0 x3_1 = some r) ∧ Aside0 (kq ≤ k) ∧ Aside0 (Kd.R (Kd.int .u32) 145 w' w0.heap.size (fun k_ => (P0_ k_ ∨ w.heap.size ≤ k_)) (.slice Ao2 l0.length co2) l0) ∧ Aside0 (Kept w w' (fun k_ => P0_ k_)) ∧ Aside0 (Below w0.heap.size w0 w'))
 case atStart => exact ⟨((l0.length : Int)), rs, H', ⟨Nat.le_refl _⟩, ⟨by exact rA HO0.out⟩, ⟨by repeat (first | (with_reducible first | exact HK.out | apply Kept.alloc | apply Kept.drewN | apply Kept.drew) | exact HK.out)⟩, ⟨bl HB⟩⟩
 case round =>
  clear H'
  obtain ⟨x3_1, rfl, HA, HK1, HO_0, HK, HB⟩ := hrel
  cases gk with
  | zero => exact absurd HA.out (by simp [zx.l0])
  | succ k1 =>
   have H := HA.out
   clear HA
   simp only [zx.l0] at H
   by_cases c3 : x3_1 > 0; rotate_left
   ·rw [if_neg c3] at H
    have c3b0 := dF c3
    clear c3
    replace H := iE_ H
    obtain ⟨c11b0, c11b1, H⟩ := H
    replace H := iE_ H
    obtain ⟨c12b0, c12b1, H⟩ := H
    replace H := yS H
    obtain ⟨y241, Ny241, H⟩ := H
    obtain rfl := sI H
    have q13 : (x3_1 : Int) ≤ ((l0.length : Int) : Int) := oa
    obtain ⟨i013, hi013, _, hsz13, _⟩ := info_parts xR
    have hcut13 := z6g (P := Tryz.prog) 59 145 .i64 Tryz.underlying59 hi013 Ao2 l0.length co2 x3_1 (oa) q13 (Kd.zz HO_0.out).2.1
    have hr13 := Kd.z7o (m := (x3_1 : Int).toNat) HO_0.out (by omega)
    have hy13 : y241.length = (x3_1 : Int).toNat := (by rw [Ny241.out, List.length_take]; omega)
    rw [← Ny241.out] at hr13
    rw [← hy13] at hr13 hcut13
    clear hy13 hi013 hsz13 HO_0
    have HO243 := aS hr13
    clear hr13
    replace q13 := eq_true q13
    go_wp2
    go_ret
    exact ⟨_, re, by exact rA HO243.out, bl HB, by repeat (first | (with_reducible first | exact HK.out | apply Kept.alloc | apply Kept.drewN | apply Kept.drew) | exact HK.out)⟩
   rw [if_pos c3] at H
   have c3b0 := dT c3
   clear c3
   obtain ⟨ji4, hji4⟩ : ∃ j_ : Int, (wrap64 (x3_1 - 1)) = j_ := ⟨_, rfl⟩
   simp only [hji4] at H
   have hji4w : (IntKind.i64.wrap (x3_1 - 1)) = ji4 := (yh _).trans hji4
   replace H := iD_ H
   obtain ⟨c5b0, H⟩ := H
   replace H := iD_ H
   obtain ⟨c6b0, H⟩ := H
   by_cases c7 : (rd l0 (ji4)) = 0
   ·rw [if_pos c7] at H
    have c7b0 := bT c7
    have c7b1 := nF c7
    clear c7
    have H' := aS H
    clear H
    obtain ⟨ad237, e237, hx237_0⟩ := Kd.zT (Kd.zz HO_0.out).2.2 (ji4) oa oa
    cases e237
    have p237 : (0 ≤ ((ji4) : Int)) = True := tO
    have q237 : ((ji4) < (l0.length : Int)) = True := tO
    go_wp2
    go_roundg k1
    case measure => have := HK1.out; omega
    case rel => exact ⟨(ji4), (by first | rfl | (simp; done) | (simp only [← hji4] <;> (first | rfl | simp)) | (simp [*]; done)), H', ⟨by have := HK1.out; omega⟩, ⟨by exact rA HO_0.out⟩, ⟨by repeat (first | (with_reducible first | exact HK.out | apply Kept.alloc | apply Kept.drewN | apply Kept.drew) | exact HK.out)⟩, ⟨bl HB⟩⟩
   rw [if_neg c7] at H
   have c7b0 := bF c7
   have c7b1 := nT c7
   replace H := iE_ H
   obtain ⟨c8b0, c8b1, H⟩ := H
   replace H := iE_ H
   obtain ⟨c9b0, c9b1, H⟩ := H
   replace H := yS H
   obtain ⟨y238, Ny238, H⟩ := H
   obtain rfl := sI H
   obtain ⟨ad237, e237, hx237_0⟩ := Kd.zT (Kd.zz HO_0.out).2.2 (ji4) oa oa
   cases e237
   have p237 : (0 ≤ ((ji4) : Int)) = True := tO
   have q237 : ((ji4) < (l0.length : Int)) = True := tO
   have q10 : (x3_1 : Int) ≤ ((l0.length : Int) : Int) := oa
   obtain ⟨i010, hi010, _, hsz10, _⟩ := info_parts xR
   have hcut10 := z6g (P := Tryz.prog) 59 145 .i64 Tryz.underlying59 hi010 (some ad237) l0.length co2 x3_1 (oa) q10 (Kd.zz HO_0.out).2.1
   have hr10 := Kd.z7o (m := (x3_1 : Int).toNat) HO_0.out (by omega)
   have hy10 : y238.length = (x3_1 : Int).toNat := (by rw [Ny238.out, List.length_take]; omega)
   rw [← Ny238.out] at hr10
   rw [← hy10] at hr10 hcut10
   clear hy10 hi010 hsz10 HO_0
   have HO240 := aS hr10
   clear hr10
   replace q10 := eq_true q10
   go_wp2
   go_ret
   exact ⟨_, by first | rfl | (simp [yY, yZ] <;> rfl) | (simp only [← hji4]; first | rfl | (simp [yY, yZ] <;> rfl)) | (simp [*, yY, yZ] <;> rfl), by exact rA HO240.out, bl HB, by repeat (first | (with_reducible first | exact HK.out | apply Kept.alloc | apply Kept.drewN | apply Kept.drew) | exact HK.out)⟩
def zH.l0 : Nat → List Int → List Int → Int → Int → Option (List Int)
 | 0, _, _, _, _ => none
 | k + 1, x0, x3, x4, x5 => if x5 ≥ 0 then (if 0 ≤ x5 then (if x5 < (x0.length : Int) then (if x5 < (x3.length : Int) then (zH.l0 k x0 (x3.set (x5 : Int).toNat (Go.bits .or .u32 ((rd x0 x5) / 2) ((x4 * 2147483648) % 4294967296))) (Int.tmod (rd x0 x5) 2) (wrap64 (x5 - 1))) else (none)) else (none)) else (none)) else ((zx.f k x3).bind fun t250 => (some t250))
def zH.f (k : Nat) (l0 : List Int) : Option (List Int) := if 0 ≤ (l0.length : Int) then (if ((l0.length : Int) : Int).toNat ≤ 70368744177664 then (zH.l0 k l0 (List.replicate ((l0.length : Int) : Int).toNat 0) 0 (wrap64 ((l0.length : Int) - 1))) else (none)) else (none)
theorem zH.calls (k : Nat) (A0 : Option Addr) (c0 : Nat) (l0 : List Int) (r : List Int) (w : World) (hr0 : Kd.C (Kd.int .u32) w A0 l0.length l0) (hc0 : l0.length ≤ c0) (h : zH.f k l0 = some r) :
 Calls Tryz.prog 179 #[.slice A0 l0.length c0] w fun e w' => ∃ v0_ : Value, e = .returned (v0_) ∧ Kd.R (Kd.int .u32) 145 w' w.heap.size (fun _ => True) v0_ r ∧ Below w.heap.size w w' := by
 have HR0 := aS hr0
 have HC0 := aS hc0
 clear hr0 hc0
 have HB := hR w
 have H := h
 unfold zH.f at H
 clear h
 replace H := iE_ H
 obtain ⟨c2b0, c2b1, H⟩ := H
 replace H := iE_ H
 obtain ⟨c3b0, c3b1, H⟩ := H
 obtain ⟨y244, Ny244⟩ := yE (List.replicate ((l0.length : Int) : Int).toNat 0 : List Int)
 rw [← Ny244.out] at H
 have H' := aS H
 clear H
 go_enter Tryz.func179, Tryz.ntmps179
 go_wp2_with (first | ((with_reducible refine zq (N := 8) rfl ?_); refine Kd.z1w (Kd.int .u32) _ 145 rfl (N := 8) rfl 59 _ _ rfl (l0.length : Int) rfl rfl Tryz.underlying59 (.int .u32 0) 4 xR rfl (by decide) (by omega) 0 (ok := fun _ => True) (okp := fun _ => True) rfl (fun _ hk => hk) trivial (oa) (Nat.le_trans (Nat.mul_le_mul_right _ (oa : (l0.length : Int).toNat ≤ 70368744177664)) (by omega)) (Below.refl _ _) (Nat.le_refl _) ?_; intro v245 w4 ho5 hb hg_ hnew_; clear hg_ hnew_; (first | rw [← Ny244.out] at ho5 | (simp only [Int.reduceToNat] at ho5; rw [← Ny244.out] at ho5)); have HO246 := aS (Kd.zL ho5 (zg (bl HB))); replace HB := hB_ HB hb; clear hb ho5))
 go_loopg [4, 5] k (fun kq v4 v5 w' => ∃ (x3_1 : List Int) (x4_1 : Int) (x5_1 : Int), v4 = .int .u32 x4_1 ∧ v5 = .int .i64 x5_1 ∧ Aside0 (zH.l0 kq l0 x3_1 x4_1 x5_1 = some r) ∧ Aside0 (kq ≤ k) ∧ Aside0 (Kd.R (Kd.int .u32) 145 w' w.heap.size (fun _ => True) v245 x3_1) ∧ Aside0 (Below w.heap.size w w'))
 case atStart => exact ⟨(y244), (0), (wrap64 ((l0.length : Int) - 1)), rs, rs, H', ⟨Nat.le_refl _⟩, ⟨by exact rA HO246.out⟩, ⟨bl HB⟩⟩
 case round =>
  clear H'
  obtain ⟨x3_1, x4_1, x5_1, rfl, rfl, HA, HK1, HO_3, HB⟩ := hrel
  cases gk with
  | zero => exact absurd HA.out (by simp [zH.l0])
  | succ k1 =>
   have H := HA.out
   clear HA
   simp only [zH.l0] at H
   by_cases c6 : x5_1 ≥ 0; rotate_left
   ·rw [if_neg c6] at H
    have c6b0 := dF c6
    clear c6
    replace H := bA H
    obtain ⟨t250, A13, H⟩ := H
    obtain rfl := sI H
    obtain ⟨Ao14, co14, eo14⟩ := Kd.zB HO_3.out
    subst eo14
    go_wp2_with (first | ((with_reducible refine zi (f := 150) rfl ?_); refine gl 33 Tryz.func150 #[.slice Ao14 x3_1.length co14] ?_; (with_reducible refine (zx.calls k1 (fun k_ => some k_ = (.slice Ao14 x3_1.length co14 : Value).ownBlock) (.slice Ao14 x3_1.length co14) x3_1 t250 w _ ?side1 ?side2 A13.out).mono ?_); (case side1 => exact bl HB); (case side2 => exact Kd.z0Q rfl HO_3.out); rintro e w15 ⟨v251, rfl, ho0, hb, hkp⟩; refine ⟨_, rfl, ?_⟩; have HO252 := aS (Kd.zw (ok' := fun k_ => True) ho0 (fun k_ hk_ => trivial)); replace HB := aS (hb); clear HO_3; clear hb hkp ho0))
    go_ret
    exact ⟨_, re, by exact rA HO252.out, bl HB⟩
   rw [if_pos c6] at H
   have c6b0 := dT c6
   clear c6
   replace H := iD_ H
   obtain ⟨c7b0, H⟩ := H
   replace H := iD_ H
   obtain ⟨c8b0, H⟩ := H
   replace H := iD_ H
   obtain ⟨c9b0, H⟩ := H
   obtain ⟨y248, Ny248⟩ := yE (x3_1.set (x5_1 : Int).toNat (Go.bits .or .u32 ((rd l0 x5_1) / 2) ((x4_1 * 2147483648) % 4294967296)) : List Int)
   rw [← Ny248.out] at H
   have H' := aS H
   clear H
   obtain ⟨ad247, e247, hx247_0⟩ := Kd.zT HR0.out x5_1 oa oa
   cases e247
   replace hx247_0 := xb HB hx247_0
   have p247 : (0 ≤ (x5_1 : Int)) = True := tO
   have q247 : (x5_1 < (l0.length : Int)) = True := tO
   have p10 : 0 ≤ (x5_1 : Int) := oa
   have q10 : (x5_1 : Int) < ((x3_1.length : Int) : Int) := oa
   obtain ⟨go10, co10, eo10, gb10, gl10, cl10, HG10⟩ := Kd.z0M HO_3.out (by omega)
   (first | cases eo10 | (injection eo10 with ea_ en_ ec_; (first | subst ea_ | (injection ea_ with ea_; subst ea_)); subst ec_; clear en_))
   have GB10 := aS gb10
   have GG10 := aS HG10
   clear gb10 gl10 HG10
   obtain ⟨hx10_0, hf10_0⟩ := Kd.yx 0 HO_3.out (x5_1 : Int) p10 q10
   replace p10 := eq_true p10
   replace q10 := eq_true q10
   have HP11 := Kd.z0q HO_3.out (x5_1 : Int) (Go.bits .or .u32 ((rd l0 x5_1) / 2) ((x4_1 * 2147483648) % 4294967296))
   go_wp2_with (first | ((with_reducible refine xJ (t := 145) (p := 26) rfl ?_); refine xA (t := 145) (p := 26) (v := ?vo_w12) (w1 := (wr.setCell ⟨go10, (x5_1 : Int).toNat, none⟩ (.int .u32 (Go.bits .or .u32 ((rd l0 x5_1) / 2) ((x4_1 * 2147483648) % 4294967296))))) ?hg ?ho ?hn ?hr ?_; (case ho => rfl); (case hg => rfl); (case hn => rfl); (case hr => first | (go_simp; done) | (go_simp; rfl)); intro w12 hw; have hg : wr.grownBy w12 (some go10) := (by rw [hw]; exact HP11.2); have hp_ : Kd.R (Kd.int .u32) 145 w12 w.heap.size (fun _ => True) (.slice (some ⟨go10, 0, none⟩) x3_1.length co10) y248 := (by rw [hw, Ny248.out]; exact HP11.1); clear HP11; replace HO_3 := aS (hp_); replace HB := aS ((by rw [hw]; exact zG (HB.out) GB10.out : Below w.heap.size w w12)); clear hg hw hp_; have p249 : 0 ≤ (x5_1 : Int) := oa; have q249 : x5_1 < (l0.length : Int) := oa; obtain ⟨ad249, e249, hx249_0⟩ := Kd.zT HR0.out x5_1 p249 q249; obtain rfl : ad247 = ad249 := (by injection e249); replace hx249_0 := xb HB hx249_0; replace p249 := eq_true p249; replace q249 := eq_true q249))
   go_roundg k1
   case measure => have := HK1.out; omega
   case rel => exact ⟨(y248), (Int.tmod (rd l0 x5_1) 2), (wrap64 (x5_1 - 1)), rs, rs, H', ⟨by have := HK1.out; omega⟩, ⟨by exact rA HO_3.out⟩, ⟨bl HB⟩⟩
def zF.l0 : Nat → List Int → List Int → Int → Option (Int)
 | 0, _, _, _ => none
 | k + 1, x0, x1, x5 => if x5 ≥ 0 then (if 0 ≤ x5 then (if x5 < (x0.length : Int) then (if x5 < (x1.length : Int) then (if (rd x0 x5) < (rd x1 x5) then (some (-1)) else (if (rd x0 x5) > (rd x1 x5) then (some 1) else (zF.l0 k x0 x1 (wrap64 (x5 - 1))))) else (none)) else (none)) else (none)) else (some 0)
def zF.f (k : Nat) (l0 : List Int) (l1 : List Int) : Option (Int) := if (l0.length : Int) = (l1.length : Int) then (zF.l0 k l0 l1 (wrap64 ((l0.length : Int) - 1))) else (if (l0.length : Int) < (l1.length : Int) then (some (-1)) else (some 1))
theorem zF.calls (k : Nat) (A0 : Option Addr) (c0 : Nat) (l0 : List Int) (A1 : Option Addr) (c1 : Nat) (l1 : List Int) (r : Int) (w : World) (hr0 : Kd.C (Kd.int .u32) w A0 l0.length l0) (hc0 : l0.length ≤ c0) (hr1 : Kd.C (Kd.int .u32) w A1 l1.length l1) (hc1 : l1.length ≤ c1) (h : zF.f k l0 l1 = some r) :
 Calls Tryz.prog 180 #[.slice A0 l0.length c0, .slice A1 l1.length c1] w fun e w' => e = .returned (.int .i64 r) ∧ zj w w' := by
 have HR0 := aS hr0
 have HC0 := aS hc0
 clear hr0 hc0
 have HR1 := aS hr1
 have HC1 := aS hc1
 clear hr1 hc1
 have H := h
 unfold zF.f at H
 clear h
 by_cases c3 : (l0.length : Int) = (l1.length : Int); rotate_left
 ·rw [if_neg c3] at H
  have c3b0 := bF c3
  have c3b1 := nT c3
  have c3b2 : (l0.length == l1.length) = false := by first | simpa using c3 | (simp at c3 ⊢; omega)
  by_cases c10 : (l0.length : Int) < (l1.length : Int)
  ·rw [if_pos c10] at H
   have c10b0 := dT c10
   have c10b1 : decide (l0.length < l1.length) = true := dT (Int.ofNat_lt.mp c10)
   clear c10
   obtain rfl := sI H
   go_enter Tryz.func180, Tryz.ntmps180
   go_wp2
   repeat (go_quiet (fail); try go_wp2)
   go_ret
   exact ⟨by first | rfl | (simp; done) | (simp [*]; done), by repeat (first | exact zj.refl _ | apply zj.step)⟩
  ·rw [if_neg c10] at H
   have c10b0 := dF c10
   have c10b1 : decide (l0.length < l1.length) = false := dF (fun h => c10 (Int.ofNat_lt.mpr h))
   clear c10
   obtain rfl := sI H
   go_enter Tryz.func180, Tryz.ntmps180
   go_wp2
   repeat (go_quiet (fail); try go_wp2)
   go_ret
   exact ⟨by first | rfl | (simp; done) | (simp [*]; done), by repeat (first | exact zj.refl _ | apply zj.step)⟩
 rw [if_pos c3] at H
 have c3b0 := bT c3
 have c3b1 := nF c3
 have c3b2 : (l0.length == l1.length) = true := by first | simpa using c3 | (simp at c3 ⊢; omega)
 clear c3
 have H' := aS H
 clear H
 go_enter Tryz.func180, Tryz.ntmps180
 go_wp2
 repeat (go_quiet (fail); try go_wp2)
 go_loopg [5] k (fun kq v5 w' => ∃ (x5_1 : Int), v5 = .int .i64 x5_1 ∧ Aside0 (zF.l0 kq l0 l1 x5_1 = some r) ∧ Aside0 (kq ≤ k) ∧ zj w w')
 case atStart => exact ⟨(wrap64 ((l0.length : Int) - 1)), rs, H', ⟨Nat.le_refl _⟩, by repeat (first | exact zj.refl _ | apply zj.step)⟩
 case round =>
  clear H'
  obtain ⟨x5_1, rfl, HA, HK1, ⟨m1, rfl⟩⟩ := hrel
  cases gk with
  | zero => exact absurd HA.out (by simp [zF.l0])
  | succ k1 =>
   have H := HA.out
   clear HA
   simp only [zF.l0] at H
   by_cases c4 : x5_1 ≥ 0; rotate_left
   ·rw [if_neg c4] at H
    have c4b0 := dF c4
    clear c4
    obtain rfl := sI H
    go_wp2
    repeat (go_quiet (fail); try go_wp2)
    go_ret
    exact ⟨by first | rfl | (simp; done) | (simp [*]; done), by repeat (first | exact zj.refl _ | apply zj.step)⟩
   rw [if_pos c4] at H
   have c4b0 := dT c4
   clear c4
   replace H := iD_ H
   obtain ⟨c5b0, H⟩ := H
   replace H := iD_ H
   obtain ⟨c6b0, H⟩ := H
   replace H := iD_ H
   obtain ⟨c7b0, H⟩ := H
   by_cases c8 : (rd l0 x5_1) < (rd l1 x5_1)
   ·rw [if_pos c8] at H
    have c8b0 := dT c8
    clear c8
    obtain rfl := sI H
    obtain ⟨ad253, e253, hx253_0⟩ := Kd.zT HR0.out x5_1 oa oa
    cases e253
    have p253 : (0 ≤ (x5_1 : Int)) = True := tO
    have q253 : (x5_1 < (l0.length : Int)) = True := tO
    obtain ⟨ad254, e254, hx254_0⟩ := Kd.zT HR1.out x5_1 oa oa
    cases e254
    have p254 : (0 ≤ (x5_1 : Int)) = True := tO
    have q254 : (x5_1 < (l1.length : Int)) = True := tO
    go_wp2
    repeat (go_quiet (fail); try go_wp2)
    go_ret
    exact ⟨by first | rfl | (simp; done) | (simp [*]; done), by repeat (first | exact zj.refl _ | apply zj.step)⟩
   rw [if_neg c8] at H
   have c8b0 := dF c8
   clear c8
   by_cases c9 : (rd l0 x5_1) > (rd l1 x5_1); rotate_left
   ·rw [if_neg c9] at H
    have c9b0 := dF c9
    clear c9
    have H' := aS H
    clear H
    obtain ⟨ad253, e253, hx253_0⟩ := Kd.zT HR0.out x5_1 oa oa
    cases e253
    have p253 : (0 ≤ (x5_1 : Int)) = True := tO
    have q253 : (x5_1 < (l0.length : Int)) = True := tO
    obtain ⟨ad254, e254, hx254_0⟩ := Kd.zT HR1.out x5_1 oa oa
    cases e254
    have p254 : (0 ≤ (x5_1 : Int)) = True := tO
    have q254 : (x5_1 < (l1.length : Int)) = True := tO
    obtain ⟨ad255, e255, hx255_0⟩ := Kd.zT HR0.out x5_1 oa oa
    obtain rfl : ad253 = ad255 := (by injection e255)
    have p255 : (0 ≤ (x5_1 : Int)) = True := tO
    have q255 : (x5_1 < (l0.length : Int)) = True := tO
    obtain ⟨ad256, e256, hx256_0⟩ := Kd.zT HR1.out x5_1 oa oa
    obtain rfl : ad254 = ad256 := (by injection e256)
    have p256 : (0 ≤ (x5_1 : Int)) = True := tO
    have q256 : (x5_1 < (l1.length : Int)) = True := tO
    go_wp2
    repeat (go_quiet (fail); try go_wp2)
    go_roundg k1
    case measure => have := HK1.out; omega
    case rel => exact ⟨(wrap64 (x5_1 - 1)), rs, H', ⟨by have := HK1.out; omega⟩, by repeat (first | exact zj.refl _ | apply zj.step)⟩
   rw [if_pos c9] at H
   have c9b0 := dT c9
   clear c9
   obtain rfl := sI H
   obtain ⟨ad253, e253, hx253_0⟩ := Kd.zT HR0.out x5_1 oa oa
   cases e253
   have p253 : (0 ≤ (x5_1 : Int)) = True := tO
   have q253 : (x5_1 < (l0.length : Int)) = True := tO
   obtain ⟨ad254, e254, hx254_0⟩ := Kd.zT HR1.out x5_1 oa oa
   cases e254
   have p254 : (0 ≤ (x5_1 : Int)) = True := tO
   have q254 : (x5_1 < (l1.length : Int)) = True := tO
   obtain ⟨ad255, e255, hx255_0⟩ := Kd.zT HR0.out x5_1 oa oa
   obtain rfl : ad253 = ad255 := (by injection e255)
   have p255 : (0 ≤ (x5_1 : Int)) = True := tO
   have q255 : (x5_1 < (l0.length : Int)) = True := tO
   obtain ⟨ad256, e256, hx256_0⟩ := Kd.zT HR1.out x5_1 oa oa
   obtain rfl : ad254 = ad256 := (by injection e256)
   have p256 : (0 ≤ (x5_1 : Int)) = True := tO
   have q256 : (x5_1 < (l1.length : Int)) = True := tO
   go_wp2
   repeat (go_quiet (fail); try go_wp2)
   go_ret
   exact ⟨by first | rfl | (simp; done) | (simp [*]; done), by repeat (first | exact zj.refl _ | apply zj.step)⟩
def yM.f (l0 : List Int) (a1 : Int) : Option (Int) := if a1 < (l0.length : Int) then (if 0 ≤ a1 then (some (IntKind.u64.wrap (rd l0 a1))) else (none)) else (some 0)
theorem yM.calls (A0 : Option Addr) (c0 : Nat) (l0 : List Int) (a1 : Int) (r : Int) (w : World) (hr0 : Kd.C (Kd.int .u32) w A0 l0.length l0) (hc0 : l0.length ≤ c0) (h : yM.f l0 a1 = some r) :
 Calls Tryz.prog 213 #[.slice A0 l0.length c0, .int .i64 a1] w fun e w' => e = .returned (.int .u64 r) ∧ zj w w' := by
 have HR0 := aS hr0
 have HC0 := aS hc0
 clear hr0 hc0
 have H := h
 unfold yM.f at H
 clear h
 by_cases c3 : a1 < (l0.length : Int); rotate_left
 ·rw [if_neg c3] at H
  have c3b0 := dF c3
  clear c3
  obtain rfl := sI H
  go_enter Tryz.func213, Tryz.ntmps213
  go_wp2
  go_ret
  exact ⟨by first | rfl | (simp; done) | (simp [*]; done), by repeat (first | exact zj.refl _ | apply zj.step)⟩
 rw [if_pos c3] at H
 have c3b0 := dT c3
 clear c3
 replace H := iD_ H
 obtain ⟨c4b0, H⟩ := H
 obtain rfl := sI H
 obtain ⟨ad257, e257, hx257_0⟩ := Kd.zT HR0.out a1 oa oa
 cases e257
 have p257 : (0 ≤ (a1 : Int)) = True := tO
 have q257 : (a1 < (l0.length : Int)) = True := tO
 go_enter Tryz.func213, Tryz.ntmps213
 go_wp2
 go_ret
 exact ⟨by first | rfl | (simp; done) | (simp [*]; done), by repeat (first | exact zj.refl _ | apply zj.step)⟩
end
end
end Go.Proofs.QP

