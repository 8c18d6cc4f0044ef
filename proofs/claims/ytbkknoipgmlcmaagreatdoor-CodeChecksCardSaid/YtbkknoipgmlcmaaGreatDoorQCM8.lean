import Derived.LoopN
import Derived.Handy
import Derived.IntWalk
import Derived.Deep.LoopGhost
import Derived.BigQuiet
import Derived.Deep.QuietTactic
import Derived.Test.YtbkknoipgmlcmaaGreatDoorQCM7
set_option linter.unusedVariables false
set_option linter.unusedSimpArgs false
set_option maxHeartbeats 8000000
set_option maxRecDepth 100000
namespace Go.Proofs.YtbkknoipgmlcmaaGreatDoor.P
open Go.RowKit Go.Proofs.YtbkknoipgmlcmaaGreatDoorW.PrintWords Go.Proofs.YtbkknoipgmlcmaaGreatDoorW.PrintLast Go.Proofs.YtbkknoipgmlcmaaGreatDoorW.PrintMore
open Go.Proofs.FX
attribute [local go_sem] cell_twice le_add_cast
attribute [local go_sem] max2_int min2_int max_two min_two max_three min_three max_four min_four
def fluxionlaw29_cut.f (k : Nat) (l0 : List (S50)) : Option ((List (S50))) := (fluxionref29_Cut.f k l0 400).bind fun t164 => (some t164)
theorem fluxionlaw29_cut.calls (k : Nat) (A0 : Option Addr) (c0 : Nat) (l0 : List (S50)) (r : List (S50)) (w : World) (hr0 : Kd.C k50 w A0 l0.length l0) (hc0 : l0.length ≤ c0) (h : fluxionlaw29_cut.f k l0 = some r) :
 Calls Tryz.prog 11 #[.slice A0 l0.length c0] w fun e w' => ∃ v0_ : Value, e = .returned (v0_) ∧ Kd.R k50 50 w' w.heap.size (fun _ => True) v0_ r ∧ Below w.heap.size w w' := by
 have HR0 := aS hr0
 have HC0 := aS hc0
 clear hr0 hc0
 have HB := aS (Below.refl w.heap.size w)
 have H := h
 unfold fluxionlaw29_cut.f at H
 clear h
 replace H := bS H
 obtain ⟨t164, A20, H⟩ := H
 (try dsimp only at H)
 have A2 := aS A20
 clear A20
 obtain rfl := sI H
 go_enter Tryz.func11, Tryz.ntmps11
 go_wp2_with (first | ((with_reducible refine gate_callee (f := 30) rfl ?_); refine gl 4 Tryz.func30 #[.slice A0 l0.length c0, .int .i64 400] ?_; (with_reducible refine (fluxionref29_Cut.calls k _ _ l0 400 t164 _ ?side1 ?side2 A2.out).mono ?_); (case side1 => repeat (first | exact HR0.out | (with_reducible refine Kd.C_alloc ?_ _) | (with_reducible refine Kd.C_drewN ?_ _) | (with_reducible refine Kd.C_drew ?_))); (case side2 => exact HC0.out); rintro e w3 ⟨v165, rfl, ho0, hb⟩; refine ⟨_, rfl, ?_⟩; have HO166 := aS (Kd.R_lower ho0 (below_size (bl HB))); replace HB := aS (bs_ (bl HB) hb); clear hb ho0))
 go_ret
 exact ⟨_, re, by exact rA HO166.out, bl HB⟩
end Go.Proofs.YtbkknoipgmlcmaaGreatDoor.P

namespace Go.Proofs.YtbkknoipgmlcmaaGreatDoor.P
open Go.RowKit Go.Proofs.YtbkknoipgmlcmaaGreatDoorW.PrintWords Go.Proofs.YtbkknoipgmlcmaaGreatDoorW.PrintLast Go.Proofs.YtbkknoipgmlcmaaGreatDoorW.PrintMore
def sortsC : List Value := [.string ⟨#[]⟩, .int .i64 0, .int .i64 0, .int .i64 0, .bool false, .int .i64 0, .int .i64 0, .string ⟨#[110, 117, 109]⟩, .int .i64 1, .int .i64 0, .int .i64 0, .bool true, .int .i64 0, .int .i64 0, .string ⟨#[98, 105, 116]⟩, .int .i64 1, .int .i64 3, .int .i64 0, .bool false, .int .i64 0, .int .i64 1, .string ⟨#[99, 111, 117, 110, 116]⟩, .int .i64 1, .int .i64 3, .int .i64 0, .bool false, .int .i64 (-1), .int .i64 8, .string ⟨#[99, 111, 112, 121]⟩, .int .i64 1, .int .i64 1, .int .i64 0, .bool false, .int .i64 0, .int .i64 0, .string ⟨#[97, 100, 100]⟩, .int .i64 1, .int .i64 1, .int .i64 1, .bool false, .int .i64 0, .int .i64 0, .string ⟨#[115, 117, 98]⟩, .int .i64 1, .int .i64 1, .int .i64 1, .bool false, .int .i64 0, .int .i64 0, .string ⟨#[110, 101, 103]⟩, .int .i64 1, .int .i64 1, .int .i64 0, .bool false, .int .i64 0, .int .i64 0, .string ⟨#[109, 117, 108]⟩, .int .i64 1, .int .i64 1, .int .i64 1, .bool false, .int .i64 0, .int .i64 0, .string ⟨#[100, 105, 118]⟩, .int .i64 1, .int .i64 1, .int .i64 1, .bool false, .int .i64 0, .int .i64 0, .string ⟨#[108, 101, 115, 115]⟩, .int .i64 1, .int .i64 1, .int .i64 1, .bool false, .int .i64 0, .int .i64 0, .string ⟨#[115, 97, 109, 101]⟩, .int .i64 1, .int .i64 1, .int .i64 1, .bool false, .int .i64 0, .int .i64 0, .string ⟨#[97, 110, 100]⟩, .int .i64 1, .int .i64 1, .int .i64 1, .bool false, .int .i64 0, .int .i64 0, .string ⟨#[111, 114]⟩, .int .i64 1, .int .i64 1, .int .i64 1, .bool false, .int .i64 0, .int .i64 0, .string ⟨#[110, 111, 116]⟩, .int .i64 1, .int .i64 1, .int .i64 0, .bool false, .int .i64 0, .int .i64 0, .string ⟨#[116, 111, 110, 117, 109]⟩, .int .i64 1, .int .i64 1, .int .i64 0, .bool false, .int .i64 0, .int .i64 0, .string ⟨#[110, 101, 119]⟩, .int .i64 1, .int .i64 3, .int .i64 0, .bool false, .int .i64 1, .int .i64 8, .string ⟨#[108, 111, 97, 100]⟩, .int .i64 1, .int .i64 1, .int .i64 1, .bool false, .int .i64 0, .int .i64 0, .string ⟨#[115, 116, 111, 114, 101]⟩, .int .i64 1, .int .i64 1, .int .i64 1, .bool false, .int .i64 0, .int .i64 0, .string ⟨#[115, 116, 101, 112]⟩, .int .i64 1, .int .i64 3, .int .i64 0, .bool false, .int .i64 (-1), .int .i64 1, .string ⟨#[106, 117, 109, 112]⟩, .int .i64 2, .int .i64 0, .int .i64 0, .bool false, .int .i64 0, .int .i64 0, .string ⟨#[117, 110, 116, 105, 108]⟩, .int .i64 2, .int .i64 1, .int .i64 3, .bool false, .int .i64 (-1), .int .i64 8, .string ⟨#[116, 101, 115, 116]⟩, .int .i64 1, .int .i64 2, .int .i64 2, .bool false, .int .i64 0, .int .i64 0, .string ⟨#[115, 112, 111, 105, 108]⟩, .int .i64 1, .int .i64 1, .int .i64 0, .bool false, .int .i64 0, .int .i64 0, .string ⟨#[98, 108, 111, 116]⟩, .int .i64 1, .int .i64 1, .int .i64 0, .bool false, .int .i64 0, .int .i64 0, .string ⟨#[99, 97, 108, 108]⟩, .int .i64 7, .int .i64 4, .int .i64 5, .bool false, .int .i64 0, .int .i64 0, .string ⟨#[114, 101, 116, 117, 114, 110]⟩, .int .i64 6, .int .i64 0, .int .i64 0, .bool false, .int .i64 0, .int .i64 0]
def kindsC : List Value := [.string ⟨#[]⟩, .string ⟨#[114, 101, 97, 108]⟩, .string ⟨#[102, 108, 97, 103]⟩, .string ⟨#[105, 110, 100, 101, 120]⟩]
structure GW (w : World) : Prop where
 g0 : ∀ i v, sortsC[i]? = some v → w.cell? ⟨0, i, none⟩ = some v
 g1 : ∀ i v, kindsC[i]? = some v → w.cell? ⟨1, i, none⟩ = some v
theorem GW.below {w w1 : World} (h : GW w) (hb : Below w.heap.size w w1) : GW w1 := ⟨fun i v e => pw_cell_below hb (h.g0 i v e), fun i v e => pw_cell_below hb (h.g1 i v e)⟩
theorem GW.drewN {w : World} (h : GW w) (n : Nat) : GW (w.drewN n) := h.below (Drawn0.below ⟨⟨n, rfl⟩⟩)
theorem GW.drew {w : World} (h : GW w) : GW w.drew := h.below ((Below.refl _ _).drew)
def kindsT : List ByteArray := [⟨#[]⟩, ⟨#[114, 101, 97, 108]⟩, ⟨#[102, 108, 97, 103]⟩, ⟨#[105, 110, 100, 101, 120]⟩]
theorem gtab1 {w : World} {j : Int} (h : GW w) (h0 : 0 ≤ j) (h1 : j < 4) : w.cell? ⟨1, j.toNat, none⟩ = some (.string (rdOf ByteArray.empty kindsT j)) := by
 obtain ⟨k, rfl⟩ : ∃ k : Nat, j = (k : Int) := ⟨j.toNat, by omega⟩
 have hk : k = 0 ∨ k = 1 ∨ k = 2 ∨ k = 3 := by omega
 rcases hk with rfl | rfl | rfl | rfl <;> exact h.g1 _ _ rfl
end Go.Proofs.YtbkknoipgmlcmaaGreatDoor.P

namespace Go.Proofs.YtbkknoipgmlcmaaGreatDoor.P
open Go.RowKit Go.Proofs.YtbkknoipgmlcmaaGreatDoorW.PrintWords Go.Proofs.YtbkknoipgmlcmaaGreatDoorW.PrintLast Go.Proofs.YtbkknoipgmlcmaaGreatDoorW.PrintMore
open Go.Proofs.FX
def okI (j : Nat) (b : Int) : Prop := (97 ≤ b ∧ b ≤ 122) ∨ (j ≠ 0 ∧ (b = 95 ∨ b = 46 ∨ (48 ≤ b ∧ b ≤ 57)))
instance (j : Nat) (b : Int) : Decidable (okI j b) := by unfold okI; infer_instance
def nameR (s : ByteArray) : Bool := decide (∀ i < s.size, okI i (bt s (i : Int))) && (decide (1 ≤ s.size) && decide (s.size ≤ 24))
theorem bt_get {s : ByteArray} {j : Nat} (h : j < s.size) : bt s (j : Int) = (s[j].toNat : Int) := by
  unfold bt
  simp [h]
theorem nameR_no {s : ByteArray} {j : Nat} (h : j < s.size) (hk : ¬ okI j (bt s (j : Int))) : nameR s = false := by
  unfold nameR
  rw [decide_eq_false (fun h2 => hk (h2 j h)), Bool.false_and]
theorem i64s {j n : Nat} (h : j < n) (hn : n ≤ 9223372036854775807) : wrap64 ((j : Int) + 1) = ((j + 1 : Nat) : Int) := by unfold wrap64; omega
theorem risName_calls (s : ByteArray) (w : World) (hs : s.size ≤ 9223372036854775807) : Calls Tryz.prog 95 #[.string s] w fun e w' => e = .returned (.bool (nameR s)) ∧ Below w.heap.size w w' := by
  have HS := Aside0.mk hs
  go_enter Tryz.func95, Tryz.ntmps95
  go_wp2
  go_loopg [3, 4, 5] (s.size + 1) (fun kq v3 v4 v5 w' => ∃ j : Nat, v3 = .int .i64 (j : Int) ∧ Aside0 (kq + j = s.size + 1 ∧ j ≤ s.size ∧ ∀ i < j, okI i (bt s (i : Int))) ∧ Drawn0 w w')
  case atStart => exact ⟨0, rfl, ⟨rfl, Nat.zero_le _, fun i hi => absurd hi (Nat.not_lt_zero _)⟩, ⟨0, rfl⟩⟩
  case round =>
    clear hs
    obtain ⟨j, rfl, HJ, ⟨nd, rfl⟩⟩ := hrel
    by_cases hj : j < s.size
    · have c1 : (0 ≤ (j : Int)) = True := eq_true (by omega)
      have c2 : ((j : Int) < (s.size : Int)) = True := eq_true (by omega)
      have c3 : (j < s.size) = True := eq_true hj
      have c4 := i64s hj HS.out
      have HJ2 := Aside0.mk hj
      have HBT : Aside0 (∀ h : j < s.size, bt s (j : Int) = (s[j].toNat : Int)) := ⟨fun h => bt_get h⟩
      clear hj
      go_wp2
      all_goals (try (have hj0 : j = 0 := (by assumption); subst hj0))
      all_goals (try (rename_i hz hlast; simp only [beq_iff_eq, beq_eq_false_iff_ne, bne_iff_ne, bne_eq_false_iff_eq, ne_eq] at hz))
      all_goals first
        | (have hk : okI j (bt s (j : Int)) := by
             rw [HBT.out HJ2.out]; unfold okI; omega
           cases gk with
           | zero => exact absurd HJ.out.1 (by have := HJ2.out; omega)
           | succ k3 =>
             go_roundg k3
             case measure => omega
             case rel => exact ⟨j + 1, by first | rfl | rw [c4], ⟨by have := HJ.out.1; omega, by have := HJ2.out; omega, fun i hi => (Nat.lt_succ_iff_lt_or_eq.1 hi).elim (HJ.out.2.2 i) (fun h => by rw [h]; exact hk)⟩, ⟨_, rfl⟩⟩)
        | (have hk : okI 0 (bt s ((0 : Nat) : Int)) := by
             rw [HBT.out HJ2.out]; unfold okI; omega
           cases gk with
           | zero => exact absurd HJ.out.1 (by have := HJ2.out; omega)
           | succ k3 =>
             go_roundg k3
             case measure => omega
             case rel => exact ⟨1, by first | rfl | rw [c4], ⟨by have := HJ.out.1; omega, by have := HJ2.out; omega, fun i hi => by rw [show i = 0 by omega]; exact hk⟩, ⟨_, rfl⟩⟩)
        | (have hk : ¬ okI j (bt s (j : Int)) := by
             rw [HBT.out HJ2.out]; unfold okI; omega
           refine bodyPost_ret (v := .bool false) (by simp [results, Tryz.results95, go_sem]) rfl ⟨by rw [nameR_no HJ2.out hk], pw_below_drewN (Below.refl _ _) _⟩)
        | (have hk : ¬ okI 0 (bt s ((0 : Nat) : Int)) := by
             rw [HBT.out HJ2.out]; unfold okI; omega
           refine bodyPost_ret (v := .bool false) (by simp [results, Tryz.results95, go_sem]) rfl ⟨by rw [nameR_no HJ2.out hk], pw_below_drewN (Below.refl _ _) _⟩)
        | (exfalso; omega)
        | (exfalso; simp_all; done)
        | (exfalso; simp_all; omega)
    · have c1 : ((j : Int) < (s.size : Int)) = False := eq_false (by omega)
      have c3 : (j < s.size) = False := eq_false hj
      have HA : Aside0 (nameR s = (decide (1 ≤ s.size) && decide (s.size ≤ 24))) := ⟨by
        have h := HJ.out
        unfold nameR
        rw [decide_eq_true (fun i hi => h.2.2 i (by omega)), Bool.true_and]⟩
      clear hj
      go_wp2
      all_goals (refine bodyPost_ret (v := .bool (nameR s)) ?_ rfl ⟨rfl, pw_below_drewN (Below.refl _ _) _⟩)
      all_goals (rw [HA.out]; simp [results, Tryz.results95, go_sem])
      all_goals first | omega | (rw [Bool.eq_iff_iff]; simp; omega)
theorem eqT {a b : Int} (h : (a == b) = true) : (a = b) = True := eq_true (beq_iff_eq.1 h)
theorem eqF {a b : Int} (h : (a == b) = false) : (a = b) = False := eq_false (beq_eq_false_iff_ne.1 h)
theorem cells8 {w : World} {g : Nat} {a0 a1 a2 a3 a4 a5 a6 a7 : Value} {t : TypeId} (h : w.heap[g]? = some (.cells #[a0, a1, a2, a3, a4, a5, a6, a7] t (0, 0))) :
 w.cell? ⟨g, 0, none⟩ = some a0 ∧ w.cell? ⟨g, 1, none⟩ = some a1 ∧ w.cell? ⟨g, 2, none⟩ = some a2 ∧ w.cell? ⟨g, 3, none⟩ = some a3 ∧ w.cell? ⟨g, 4, none⟩ = some a4 ∧ w.cell? ⟨g, 5, none⟩ = some a5 ∧ w.cell? ⟨g, 6, none⟩ = some a6 ∧ w.cell? ⟨g, 7, none⟩ = some a7 :=
 ⟨(blk_cell h 0).trans rfl, (blk_cell h 1).trans rfl, (blk_cell h 2).trans rfl, (blk_cell h 3).trans rfl, (blk_cell h 4).trans rfl, (blk_cell h 5).trans rfl, (blk_cell h 6).trans rfl, (blk_cell h 7).trans rfl⟩
theorem cells7 {w : World} {g : Nat} {a0 a1 a2 a3 a4 a5 a6 : Value} {t : TypeId} (h : w.heap[g]? = some (.cells #[a0, a1, a2, a3, a4, a5, a6] t (0, 0))) :
 w.cell? ⟨g, 0, none⟩ = some a0 ∧ w.cell? ⟨g, 1, none⟩ = some a1 ∧ w.cell? ⟨g, 2, none⟩ = some a2 ∧ w.cell? ⟨g, 3, none⟩ = some a3 ∧ w.cell? ⟨g, 4, none⟩ = some a4 ∧ w.cell? ⟨g, 5, none⟩ = some a5 ∧ w.cell? ⟨g, 6, none⟩ = some a6 :=
 ⟨(blk_cell h 0).trans rfl, (blk_cell h 1).trans rfl, (blk_cell h 2).trans rfl, (blk_cell h 3).trans rfl, (blk_cell h 4).trans rfl, (blk_cell h 5).trans rfl, (blk_cell h 6).trans rfl⟩
theorem cells5 {w : World} {g : Nat} {a0 a1 a2 a3 a4 : Value} {t : TypeId} (h : w.heap[g]? = some (.cells #[a0, a1, a2, a3, a4] t (0, 0))) :
 w.cell? ⟨g, 0, none⟩ = some a0 ∧ w.cell? ⟨g, 1, none⟩ = some a1 ∧ w.cell? ⟨g, 2, none⟩ = some a2 ∧ w.cell? ⟨g, 3, none⟩ = some a3 ∧ w.cell? ⟨g, 4, none⟩ = some a4 :=
 ⟨(blk_cell h 0).trans rfl, (blk_cell h 1).trans rfl, (blk_cell h 2).trans rfl, (blk_cell h 3).trans rfl, (blk_cell h 4).trans rfl⟩
theorem cells7a {w : World} {g : Nat} {a0 a1 a2 a3 a4 a5 a6 : Value} {t : TypeId} (h : w.heap[g]? = some (.cells #[a0, a1, a2, a3, a4, a5, a6] t (0, 0))) :
 (∀ o, (w.alloc o).cell? ⟨g, 0, none⟩ = some a0) ∧ (∀ o, (w.alloc o).cell? ⟨g, 1, none⟩ = some a1) ∧ (∀ o, (w.alloc o).cell? ⟨g, 2, none⟩ = some a2) ∧ (∀ o, (w.alloc o).cell? ⟨g, 3, none⟩ = some a3) ∧ (∀ o, (w.alloc o).cell? ⟨g, 4, none⟩ = some a4) ∧ (∀ o, (w.alloc o).cell? ⟨g, 5, none⟩ = some a5) ∧ (∀ o, (w.alloc o).cell? ⟨g, 6, none⟩ = some a6) :=
 ⟨fun o => (cells7 (blk_alloc h o)).1, fun o => (cells7 (blk_alloc h o)).2.1, fun o => (cells7 (blk_alloc h o)).2.2.1, fun o => (cells7 (blk_alloc h o)).2.2.2.1, fun o => (cells7 (blk_alloc h o)).2.2.2.2.1, fun o => (cells7 (blk_alloc h o)).2.2.2.2.2.1, fun o => (cells7 (blk_alloc h o)).2.2.2.2.2.2⟩
theorem at_world {P : Program} {c : Code} {Q : Exit → Act → World → Prop} {a : Act} {W : World} (Φ : World → Prop) (h : Φ W) (k : ∀ w2, Φ w2 → c.wp P Q a w2) : c.wp P Q a W := k W h
theorem cells2 {w : World} {g : Nat} {a0 a1 : Value} {t : TypeId} (h : w.heap[g]? = some (.cells #[a0, a1] t (0, 0))) : w.cell? ⟨g, 0, none⟩ = some a0 ∧ w.cell? ⟨g, 1, none⟩ = some a1 :=
 ⟨(blk_cell h 0).trans rfl, (blk_cell h 1).trans rfl⟩
def dimOk (d : Int) : Prop := 1 ≤ d ∧ d ≤ 8
instance (d : Int) : Decidable (dimOk d) := by unfold dimOk; infer_instance
def isTypeR (k : Int) (l : List Int) : Bool := decide (∀ i < l.length, dimOk (rd l (i : Int))) && (if k = 3 then decide (l.length = 1) else decide (k = 1 ∨ k = 2) && decide (l.length ≤ 3))
theorem isTypeR_no {k : Int} {l : List Int} {j : Nat} (h : j < l.length) (hk : ¬ dimOk (rd l (j : Int))) : isTypeR k l = false := by
 unfold isTypeR
 rw [dF (fun h2 => hk (h2 j h)), Bool.false_and]
theorem risType_calls (k : Int) (A : Option Addr) (c : Nat) (l : List Int) (w : World) (hr : Kd.C (Kd.int .i64) w A l.length l) (hc : l.length ≤ c) :
 Calls Tryz.prog 142 #[.agg #[.int .i64 k, .slice A l.length c]] w fun e w' => e = .returned (.bool (isTypeR k l)) ∧ Below w.heap.size w w' := by
 have hu115 := Tryz.underlying115
 have HB := aS (Below.refl w.heap.size w)
 have HR := aS hr
 have HL := aS (Kd.C_max hr)
 clear hr hc
 go_enter Tryz.func142, Tryz.ntmps142
 go_wp2_with ((with_reducible refine gate_dst (N := 1) rfl ?_); refine box_event ?hg (N := 1) ?hd (cs := #[.int .i64 k, .slice A l.length c]) (t := 115) ?hr ?_; (case hd => rfl); (case hg => rfl); (case hr => first | (go_simp; done) | (go_simp; rfl)); intro gi hg w1 hbox hb; have BKi := aS hbox; replace HB := aS (bs_ HB.out hb); clear hg hb hbox)
 go_loopg [3] (l.length + 1) (fun kq v3 w' => ∃ j : Nat, v3 = .int .i64 (j : Int) ∧ Aside0 (kq + j = l.length + 1 ∧ j ≤ l.length ∧ ∀ i < j, dimOk (rd l (i : Int))) ∧ Aside0 (Below w.heap.size w w') ∧ Aside0 (w'.heap[gi]? = some (.cells #[.int .i64 k, .slice A l.length c] 115 (0, 0))))
 case atStart => exact ⟨0, rfl, ⟨rfl, Nat.zero_le _, fun i hi => absurd hi (Nat.not_lt_zero _)⟩, HB, BKi⟩
 case round =>
  clear HB BKi
  obtain ⟨j, rfl, HJ, HB, BKi⟩ := hrel
  obtain ⟨x0, x1⟩ := cells2 BKi.out
  by_cases hj : j < l.length; rotate_left
  ·have c1 : ((j : Int) < (l.length : Int)) = False := eq_false (by omega)
   have c3 : (j < l.length) = False := eq_false hj
   have HA : Aside0 (isTypeR k l = (if k = 3 then decide (l.length = 1) else decide (k = 1 ∨ k = 2) && decide (l.length ≤ 3))) := ⟨by
    have h := HJ.out
    unfold isTypeR
    rw [dT (fun i hi => h.2.2 i (by omega)), Bool.true_and]⟩
   clear hj
   by_cases h3 : k = 3
   ·have k1 : (k == 3) = true := beq_iff_eq.2 h3
    have k2 : (k = 3) = True := eq_true h3
    rw [if_pos h3] at HA
    clear h3
    go_wp2
    refine bodyPost_ret (v := .bool (isTypeR k l)) (by rw [HA.out]; simp [results, Tryz.results142, go_sem]; first | done | omega | (rw [Bool.eq_iff_iff]; simp; done) | (rw [Bool.eq_iff_iff]; simp; omega)) rfl ⟨rfl, by first | exact HB.out | exact pw_below_drewN HB.out _⟩
   have k1 : (k == 3) = false := beq_eq_false_iff_ne.2 h3
   have k2 : (k = 3) = False := eq_false h3
   rw [if_neg h3] at HA
   clear h3
   by_cases h1 : k = 1
   ·have k3 : (k == 1) = true := beq_iff_eq.2 h1
    have k4 : (k = 1) = True := eq_true h1
    rw [dT (.inl h1), Bool.true_and] at HA
    clear h1
    go_wp2
    refine bodyPost_ret (v := .bool (isTypeR k l)) (by rw [HA.out]; simp [results, Tryz.results142, go_sem]; first | done | omega | (rw [Bool.eq_iff_iff]; simp; done) | (rw [Bool.eq_iff_iff]; simp; omega)) rfl ⟨rfl, by first | exact HB.out | exact pw_below_drewN HB.out _⟩
   ·have k3 : (k == 1) = false := beq_eq_false_iff_ne.2 h1
    have k4 : (k = 1) = False := eq_false h1
    by_cases h2 : k = 2
    ·have k5 : (k == 2) = true := beq_iff_eq.2 h2
     have k6 : (k = 2) = True := eq_true h2
     rw [dT (.inr h2), Bool.true_and] at HA
     clear h1 h2
     go_wp2
     refine bodyPost_ret (v := .bool (isTypeR k l)) (by rw [HA.out]; simp [results, Tryz.results142, go_sem]; first | done | omega | (rw [Bool.eq_iff_iff]; simp; done) | (rw [Bool.eq_iff_iff]; simp; omega)) rfl ⟨rfl, by first | exact HB.out | exact pw_below_drewN HB.out _⟩
    ·have k5 : (k == 2) = false := beq_eq_false_iff_ne.2 h2
     have k6 : (k = 2) = False := eq_false h2
     rw [dF (fun h => h.elim h1 h2), Bool.false_and] at HA
     clear h1 h2
     go_wp2
     refine bodyPost_ret (v := .bool (isTypeR k l)) (by rw [HA.out]; simp [results, Tryz.results142, go_sem]) rfl ⟨rfl, by first | exact HB.out | exact pw_below_drewN HB.out _⟩
  have c1 : (0 ≤ (j : Int)) = True := eq_true (by omega)
  have c2 : ((j : Int) < (l.length : Int)) = True := eq_true (by omega)
  have c3 : (j < l.length) = True := eq_true hj
  have c4 : wrap64 ((j : Int) + 1) = ((j + 1 : Nat) : Int) := by have := HL.out; unfold wrap64; omega
  obtain ⟨ad, rfl, hx⟩ := Kd.at_int HR.out (j : Int) (by omega) (by omega)
  replace hx := pw_cell_below HB.out hx
  rw [Int.toNat_natCast] at hx
  have HJ2 := aS hj
  obtain ⟨d, hd⟩ : ∃ d, rd l (j : Int) = d := ⟨_, rfl⟩
  rw [hd] at hx
  have HD := aS hd
  clear hj hd
  by_cases h1 : dimOk d
  ·have k1 : decide (d < 1) = false := dF (by have := h1.1; omega)
   have k2 : decide (8 < d) = false := dF (by have := h1.2; omega)
   have k3 : (d < 1) = False := eq_false (by have := h1.1; omega)
   have k4 : (8 < d) = False := eq_false (by have := h1.2; omega)
   have H1 := aS h1
   clear h1
   go_wp2
   cases gk with
   | zero => exact absurd HJ.out.1 (by have := HJ2.out; omega)
   | succ k3 =>
    go_roundg k3
    case measure => omega
    case rel => exact ⟨j + 1, by first | rfl | rw [c4], ⟨by have := HJ.out.1; omega, by have := HJ2.out; omega, fun i hi => (Nat.lt_succ_iff_lt_or_eq.1 hi).elim (HJ.out.2.2 i) (fun h => by rw [h, HD.out]; exact H1.out)⟩, ⟨by first | exact HB.out | exact pw_below_drewN HB.out _⟩, ⟨by first | exact BKi.out | exact blk_below BKi.out (pw_below_drewN (Below.refl _ _) _)⟩⟩
  ·have H1 : Aside0 (isTypeR k l = false) := ⟨isTypeR_no HJ2.out (by rw [HD.out]; exact h1)⟩
   by_cases h2 : d < 1
   ·have k1 : decide (d < 1) = true := dT h2
    have k3 : (d < 1) = True := eq_true h2
    clear h1 h2
    go_wp2
    refine bodyPost_ret (v := .bool false) (by simp [results, Tryz.results142, go_sem]) rfl ⟨by rw [H1.out], by first | exact HB.out | exact pw_below_drewN HB.out _⟩
   ·have k1 : decide (d < 1) = false := dF h2
    have k3 : (d < 1) = False := eq_false h2
    have k2 : decide (8 < d) = true := dT (by unfold dimOk at h1; omega)
    have k4 : (8 < d) = True := eq_true (by unfold dimOk at h1; omega)
    clear h1 h2
    go_wp2
    refine bodyPost_ret (v := .bool false) (by simp [results, Tryz.results142, go_sem]) rfl ⟨by rw [H1.out], by first | exact HB.out | exact pw_below_drewN HB.out _⟩
def heldR (k : Int) (l : List Int) : Bool := isTypeR k l && !decide (k = 3)
theorem rheld_calls (k : Int) (A : Option Addr) (c : Nat) (l : List Int) (w : World) (hr : Kd.C (Kd.int .i64) w A l.length l) (hc : l.length ≤ c) :
 Calls Tryz.prog 96 #[.agg #[.int .i64 k, .slice A l.length c]] w fun e w' => e = .returned (.bool (heldR k l)) ∧ Below w.heap.size w w' := by
 have hu115 := Tryz.underlying115
 have HB := aS (Below.refl w.heap.size w)
 have HR := aS hr
 have HC := aS hc
 obtain ⟨t, ht⟩ : ∃ t, isTypeR k l = t := ⟨_, rfl⟩
 obtain ⟨rr, hrr⟩ : ∃ rr, heldR k l = rr := ⟨_, rfl⟩
 have HT := aS ht
 have HA : Aside0 (rr = (t && !decide (k = 3))) := ⟨by rw [← hrr, ← ht]; rfl⟩
 rw [hrr]
 clear hr hc ht hrr
 have q : (k = 3) = True ∧ (k == 3) = true ∨ (k = 3) = False ∧ (k == 3) = false := by
  by_cases h : k = 3
  ·exact .inl ⟨eq_true h, beq_iff_eq.2 h⟩
  ·exact .inr ⟨eq_false h, beq_eq_false_iff_ne.2 h⟩
 rcases q with ⟨q1, q2⟩ | ⟨q1, q2⟩ <;> cases t
 all_goals go_enter Tryz.func96, Tryz.ntmps96
 all_goals go_wp2_with (first | ((with_reducible refine gate_dst (N := 1) rfl ?_); refine box_event ?hg (N := 1) ?hd (cs := #[.int .i64 k, .slice A l.length c]) (t := 115) ?hr ?_; (case hd => rfl); (case hg => rfl); (case hr => first | (go_simp; done) | (go_simp; rfl)); intro gi hg w1 hbox hb; have BKi := aS hbox; replace HB := aS (bs_ HB.out hb); obtain ⟨x0, x1⟩ := cells2 BKi.out; clear hg hb hbox) | (go_at_call 142; (with_reducible refine (risType_calls k A c l _ (Kd.C_below HR.out HB.out) HC.out).mono ?_); rw [HT.out]; rintro e w2 ⟨rfl, hb⟩; replace HB := aS (bs_ HB.out hb); replace BKi := aS (blk_below BKi.out hb); obtain ⟨x0, x1⟩ := cells2 BKi.out; clear hb))
 all_goals refine bodyPost_ret (v := .bool rr) (by rw [HA.out]; simp [results, Tryz.results96, go_sem, q1]) rfl ⟨rfl, by first | exact HB.out | exact pw_below_drewN HB.out _⟩
end Go.Proofs.YtbkknoipgmlcmaaGreatDoor.P

