import Derived.LoopN
import Derived.Handy
import Derived.IntWalk
import Derived.Shelf.Strings.Builder1
import Derived.Shelf.Strings.OnBuilder
import Derived.Shelf.Strings.Trim
import Derived.Shelf.Strings.BuilderF
import Derived.Shelf.Strings.BuilderK
import Derived.Shelf.Strings.SlTrimAscii
import Derived.Shelf.Strconv.Itoa3
import Derived.Test.YtbkknoipgmlcmaaGreatDoorQGM3
set_option linter.all false
set_option maxHeartbeats 8000000
set_option maxRecDepth 100000
namespace Go.Proofs.QP
open Go.RowKit Go.Proofs.PW Go.Proofs.PL Go.Proofs.PM Go.Proofs.FX
def z1R : List Value := [.string ⟨#[]⟩, .int .i64 0, .int .i64 0, .int .i64 0, .bool false, .int .i64 0, .int .i64 0, .string ⟨#[110, 117, 109]⟩, .int .i64 1, .int .i64 0, .int .i64 0, .bool true, .int .i64 0, .int .i64 0, .string ⟨#[98, 105, 116]⟩, .int .i64 1, .int .i64 3, .int .i64 0, .bool false, .int .i64 0, .int .i64 1, .string ⟨#[99, 111, 117, 110, 116]⟩, .int .i64 1, .int .i64 3, .int .i64 0, .bool false, .int .i64 (-1), .int .i64 8, .string ⟨#[99, 111, 112, 121]⟩, .int .i64 1, .int .i64 1, .int .i64 0, .bool false, .int .i64 0, .int .i64 0, .string ⟨#[97, 100, 100]⟩, .int .i64 1, .int .i64 1, .int .i64 1, .bool false, .int .i64 0, .int .i64 0, .string ⟨#[115, 117, 98]⟩, .int .i64 1, .int .i64 1, .int .i64 1, .bool false, .int .i64 0, .int .i64 0, .string ⟨#[110, 101, 103]⟩, .int .i64 1, .int .i64 1, .int .i64 0, .bool false, .int .i64 0, .int .i64 0, .string ⟨#[109, 117, 108]⟩, .int .i64 1, .int .i64 1, .int .i64 1, .bool false, .int .i64 0, .int .i64 0, .string ⟨#[100, 105, 118]⟩, .int .i64 1, .int .i64 1, .int .i64 1, .bool false, .int .i64 0, .int .i64 0, .string ⟨#[108, 101, 115, 115]⟩, .int .i64 1, .int .i64 1, .int .i64 1, .bool false, .int .i64 0, .int .i64 0, .string ⟨#[115, 97, 109, 101]⟩, .int .i64 1, .int .i64 1, .int .i64 1, .bool false, .int .i64 0, .int .i64 0, .string ⟨#[97, 110, 100]⟩, .int .i64 1, .int .i64 1, .int .i64 1, .bool false, .int .i64 0, .int .i64 0, .string ⟨#[111, 114]⟩, .int .i64 1, .int .i64 1, .int .i64 1, .bool false, .int .i64 0, .int .i64 0, .string ⟨#[110, 111, 116]⟩, .int .i64 1, .int .i64 1, .int .i64 0, .bool false, .int .i64 0, .int .i64 0, .string ⟨#[116, 111, 110, 117, 109]⟩, .int .i64 1, .int .i64 1, .int .i64 0, .bool false, .int .i64 0, .int .i64 0, .string ⟨#[110, 101, 119]⟩, .int .i64 1, .int .i64 3, .int .i64 0, .bool false, .int .i64 1, .int .i64 8, .string ⟨#[108, 111, 97, 100]⟩, .int .i64 1, .int .i64 1, .int .i64 1, .bool false, .int .i64 0, .int .i64 0, .string ⟨#[115, 116, 111, 114, 101]⟩, .int .i64 1, .int .i64 1, .int .i64 1, .bool false, .int .i64 0, .int .i64 0, .string ⟨#[115, 116, 101, 112]⟩, .int .i64 1, .int .i64 3, .int .i64 0, .bool false, .int .i64 (-1), .int .i64 1, .string ⟨#[106, 117, 109, 112]⟩, .int .i64 2, .int .i64 0, .int .i64 0, .bool false, .int .i64 0, .int .i64 0, .string ⟨#[117, 110, 116, 105, 108]⟩, .int .i64 2, .int .i64 1, .int .i64 3, .bool false, .int .i64 (-1), .int .i64 8, .string ⟨#[116, 101, 115, 116]⟩, .int .i64 1, .int .i64 2, .int .i64 2, .bool false, .int .i64 0, .int .i64 0, .string ⟨#[115, 112, 111, 105, 108]⟩, .int .i64 1, .int .i64 1, .int .i64 0, .bool false, .int .i64 0, .int .i64 0, .string ⟨#[98, 108, 111, 116]⟩, .int .i64 1, .int .i64 1, .int .i64 0, .bool false, .int .i64 0, .int .i64 0, .string ⟨#[99, 97, 108, 108]⟩, .int .i64 7, .int .i64 4, .int .i64 5, .bool false, .int .i64 0, .int .i64 0, .string ⟨#[114, 101, 116, 117, 114, 110]⟩, .int .i64 6, .int .i64 0, .int .i64 0, .bool false, .int .i64 0, .int .i64 0]
def zax : List Value := [.string ⟨#[]⟩, .string ⟨#[114, 101, 97, 108]⟩, .string ⟨#[102, 108, 97, 103]⟩, .string ⟨#[105, 110, 100, 101, 120]⟩]
structure GW (w : World) : Prop where
 g0 : ∀ i v, z1R[i]? = some v → w.cell? ⟨0, i, none⟩ = some v
 g1 : ∀ i v, zax[i]? = some v → w.cell? ⟨1, i, none⟩ = some v
theorem GW.below {w w1 : World} (h : GW w) (hb : Below w.heap.size w w1) : GW w1 := ⟨fun i v e => ze hb (h.g0 i v e), fun i v e => ze hb (h.g1 i v e)⟩
theorem GW.drewN {w : World} (h : GW w) (n : Nat) : GW (w.drewN n) := h.below (zj.below ⟨⟨n, rfl⟩⟩)
theorem GW.drew {w : World} (h : GW w) : GW w.drew := h.below ((Below.refl _ _).drew)
def z7M : List ByteArray := [⟨#[]⟩, ⟨#[114, 101, 97, 108]⟩, ⟨#[102, 108, 97, 103]⟩, ⟨#[105, 110, 100, 101, 120]⟩]
theorem zdz {w : World} {j : Int} (h : GW w) (h0 : 0 ≤ j) (h1 : j < 4) : w.cell? ⟨1, j.toNat, none⟩ = some (.string (z1X ByteArray.empty z7M j)) := by
 obtain ⟨k, rfl⟩ : ∃ k : Nat, j = (k : Int) := ⟨j.toNat, by omega⟩
 have hk : k = 0 ∨ k = 1 ∨ k = 2 ∨ k = 3 := by omega
 rcases hk with rfl | rfl | rfl | rfl <;> exact h.g1 _ _ rfl
def okI (j : Nat) (b : Int) : Prop := (97 ≤ b ∧ b ≤ 122) ∨ (j ≠ 0 ∧ (b = 95 ∨ b = 46 ∨ (48 ≤ b ∧ b ≤ 57)))
instance (j : Nat) (b : Int) : Decidable (okI j b) := by unfold okI; infer_instance
def z1r (s : ByteArray) : Bool := decide (∀ i < s.size, okI i (bt s (i : Int))) && (decide (1 ≤ s.size) && decide (s.size ≤ 24))
theorem z7r {s : ByteArray} {j : Nat} (h : j < s.size) : bt s (j : Int) = (s[j].toNat : Int) := by
  unfold bt
  simp [h]
theorem z6Y {s : ByteArray} {j : Nat} (h : j < s.size) (hk : ¬ okI j (bt s (j : Int))) : z1r s = false := by
  unfold z1r
  rw [decide_eq_false (fun h2 => hk (h2 j h)), Bool.false_and]
theorem ze8 {j n : Nat} (h : j < n) (hn : n ≤ 9223372036854775807) : wrap64 ((j : Int) + 1) = ((j + 1 : Nat) : Int) := by unfold wrap64; omega
theorem z39 (s : ByteArray) (w : World) (hs : s.size ≤ 9223372036854775807) : Calls Tryz.prog 95 #[.string s] w fun e w' => e = .returned (.bool (z1r s)) ∧ Below w.heap.size w w' := by
  have HS := Aside0.mk hs
  go_enter Tryz.func95, Tryz.ntmps95
  go_wp2
  go_loopg [3, 4, 5] (s.size + 1) (fun kq v3 v4 v5 w' => ∃ j : Nat, v3 = .int .i64 (j : Int) ∧ Aside0 (kq + j = s.size + 1 ∧ j ≤ s.size ∧ ∀ i < j, okI i (bt s (i : Int))) ∧ zj w w')
  case atStart => exact ⟨0, rfl, ⟨rfl, Nat.zero_le _, fun i hi => absurd hi (Nat.not_lt_zero _)⟩, ⟨0, rfl⟩⟩
  case round =>
    clear hs
    obtain ⟨j, rfl, HJ, ⟨nd, rfl⟩⟩ := hrel
    by_cases hj : j < s.size
    · have c1 : (0 ≤ (j : Int)) = True := eq_true (by omega)
      have c2 : ((j : Int) < (s.size : Int)) = True := eq_true (by omega)
      have c3 : (j < s.size) = True := eq_true hj
      have c4 := ze8 hj HS.out
      have HJ2 := Aside0.mk hj
      have HBT : Aside0 (∀ h : j < s.size, bt s (j : Int) = (s[j].toNat : Int)) := ⟨fun h => z7r h⟩
      clear hj
      go_wp2
      all_goals (try (have hj0 : j = 0 := (by assumption); subst hj0))
      all_goals (try (rename_i hz hlast; simp only [beq_iff_eq, beq_eq_false_iff_ne, bne_iff_ne, bne_eq_false_iff_eq, ne_eq] at hz))
      all_goals first
        | (have hk : okI j (bt s (j : Int)) := by
             rw [HBT.out HJ2.out]; unfold okI; omega
           cases gk with
           | zero => exact absurd HJ.out.1 (by have := HJ2.out; omega)
           | succ k3 =>
             go_roundg k3
             case measure => omega
             case rel => exact ⟨j + 1, by first | rfl | rw [c4], ⟨by have := HJ.out.1; omega, by have := HJ2.out; omega, fun i hi => (Nat.lt_succ_iff_lt_or_eq.1 hi).elim (HJ.out.2.2 i) (fun h => by rw [h]; exact hk)⟩, ⟨_, rfl⟩⟩)
        | (have hk : okI 0 (bt s ((0 : Nat) : Int)) := by
             rw [HBT.out HJ2.out]; unfold okI; omega
           cases gk with
           | zero => exact absurd HJ.out.1 (by have := HJ2.out; omega)
           | succ k3 =>
             go_roundg k3
             case measure => omega
             case rel => exact ⟨1, by first | rfl | rw [c4], ⟨by have := HJ.out.1; omega, by have := HJ2.out; omega, fun i hi => by rw [show i = 0 by omega]; exact hk⟩, ⟨_, rfl⟩⟩)
        | (have hk : ¬ okI j (bt s (j : Int)) := by
             rw [HBT.out HJ2.out]; unfold okI; omega
           refine bodyPost_ret (v := .bool false) (by simp [results, Tryz.results95, go_sem]) rfl ⟨by rw [z6Y HJ2.out hk], zd (Below.refl _ _) _⟩)
        | (have hk : ¬ okI 0 (bt s ((0 : Nat) : Int)) := by
             rw [HBT.out HJ2.out]; unfold okI; omega
           refine bodyPost_ret (v := .bool false) (by simp [results, Tryz.results95, go_sem]) rfl ⟨by rw [z6Y HJ2.out hk], zd (Below.refl _ _) _⟩)
        | (exfalso; omega)
        | (exfalso; simp_all; done)
        | (exfalso; simp_all; omega)
    · have c1 : ((j : Int) < (s.size : Int)) = False := eq_false (by omega)
      have c3 : (j < s.size) = False := eq_false hj
      have HA : Aside0 (z1r s = (decide (1 ≤ s.size) && decide (s.size ≤ 24))) := ⟨by
        have h := HJ.out
        unfold z1r
        rw [decide_eq_true (fun i hi => h.2.2 i (by omega)), Bool.true_and]⟩
      clear hj
      go_wp2
      all_goals (refine bodyPost_ret (v := .bool (z1r s)) ?_ rfl ⟨rfl, zd (Below.refl _ _) _⟩)
      all_goals (rw [HA.out]; simp [results, Tryz.results95, go_sem])
      all_goals first | omega | (rw [Bool.eq_iff_iff]; simp; omega)
theorem eqT {a b : Int} (h : (a == b) = true) : (a = b) = True := eq_true (beq_iff_eq.1 h)
theorem eqF {a b : Int} (h : (a == b) = false) : (a = b) = False := eq_false (beq_eq_false_iff_ne.1 h)
theorem xo {w : World} {g : Nat} {a0 a1 a2 a3 a4 a5 a6 a7 : Value} {t : TypeId} (h : w.heap[g]? = some (.cells #[a0, a1, a2, a3, a4, a5, a6, a7] t (0, 0))) :
 w.cell? ⟨g, 0, none⟩ = some a0 ∧ w.cell? ⟨g, 1, none⟩ = some a1 ∧ w.cell? ⟨g, 2, none⟩ = some a2 ∧ w.cell? ⟨g, 3, none⟩ = some a3 ∧ w.cell? ⟨g, 4, none⟩ = some a4 ∧ w.cell? ⟨g, 5, none⟩ = some a5 ∧ w.cell? ⟨g, 6, none⟩ = some a6 ∧ w.cell? ⟨g, 7, none⟩ = some a7 :=
 ⟨(za h 0).trans rfl, (za h 1).trans rfl, (za h 2).trans rfl, (za h 3).trans rfl, (za h 4).trans rfl, (za h 5).trans rfl, (za h 6).trans rfl, (za h 7).trans rfl⟩
theorem z05 {w : World} {g : Nat} {a0 a1 a2 a3 a4 a5 a6 : Value} {t : TypeId} (h : w.heap[g]? = some (.cells #[a0, a1, a2, a3, a4, a5, a6] t (0, 0))) :
 w.cell? ⟨g, 0, none⟩ = some a0 ∧ w.cell? ⟨g, 1, none⟩ = some a1 ∧ w.cell? ⟨g, 2, none⟩ = some a2 ∧ w.cell? ⟨g, 3, none⟩ = some a3 ∧ w.cell? ⟨g, 4, none⟩ = some a4 ∧ w.cell? ⟨g, 5, none⟩ = some a5 ∧ w.cell? ⟨g, 6, none⟩ = some a6 :=
 ⟨(za h 0).trans rfl, (za h 1).trans rfl, (za h 2).trans rfl, (za h 3).trans rfl, (za h 4).trans rfl, (za h 5).trans rfl, (za h 6).trans rfl⟩
theorem yL {w : World} {g : Nat} {a0 a1 a2 a3 a4 : Value} {t : TypeId} (h : w.heap[g]? = some (.cells #[a0, a1, a2, a3, a4] t (0, 0))) :
 w.cell? ⟨g, 0, none⟩ = some a0 ∧ w.cell? ⟨g, 1, none⟩ = some a1 ∧ w.cell? ⟨g, 2, none⟩ = some a2 ∧ w.cell? ⟨g, 3, none⟩ = some a3 ∧ w.cell? ⟨g, 4, none⟩ = some a4 :=
 ⟨(za h 0).trans rfl, (za h 1).trans rfl, (za h 2).trans rfl, (za h 3).trans rfl, (za h 4).trans rfl⟩
theorem zbu {w : World} {g : Nat} {a0 a1 a2 a3 a4 a5 a6 : Value} {t : TypeId} (h : w.heap[g]? = some (.cells #[a0, a1, a2, a3, a4, a5, a6] t (0, 0))) :
 (∀ o, (w.alloc o).cell? ⟨g, 0, none⟩ = some a0) ∧ (∀ o, (w.alloc o).cell? ⟨g, 1, none⟩ = some a1) ∧ (∀ o, (w.alloc o).cell? ⟨g, 2, none⟩ = some a2) ∧ (∀ o, (w.alloc o).cell? ⟨g, 3, none⟩ = some a3) ∧ (∀ o, (w.alloc o).cell? ⟨g, 4, none⟩ = some a4) ∧ (∀ o, (w.alloc o).cell? ⟨g, 5, none⟩ = some a5) ∧ (∀ o, (w.alloc o).cell? ⟨g, 6, none⟩ = some a6) :=
 ⟨fun o => (z05 (zZ h o)).1, fun o => (z05 (zZ h o)).2.1, fun o => (z05 (zZ h o)).2.2.1, fun o => (z05 (zZ h o)).2.2.2.1, fun o => (z05 (zZ h o)).2.2.2.2.1, fun o => (z05 (zZ h o)).2.2.2.2.2.1, fun o => (z05 (zZ h o)).2.2.2.2.2.2⟩
theorem z2x {P : Program} {c : Code} {Q : Exit → Act → World → Prop} {a : Act} {W : World} (Φ : World → Prop) (h : Φ W) (k : ∀ w2, Φ w2 → c.wp P Q a w2) : c.wp P Q a W := k W h
theorem z2y {w : World} {g : Nat} {a0 a1 : Value} {t : TypeId} (h : w.heap[g]? = some (.cells #[a0, a1] t (0, 0))) : w.cell? ⟨g, 0, none⟩ = some a0 ∧ w.cell? ⟨g, 1, none⟩ = some a1 :=
 ⟨(za h 0).trans rfl, (za h 1).trans rfl⟩
def z1K (d : Int) : Prop := 1 ≤ d ∧ d ≤ 8
instance (d : Int) : Decidable (z1K d) := by unfold z1K; infer_instance
def z0d (k : Int) (l : List Int) : Bool := decide (∀ i < l.length, z1K (rd l (i : Int))) && (if k = 3 then decide (l.length = 1) else decide (k = 1 ∨ k = 2) && decide (l.length ≤ 3))
theorem z7L {k : Int} {l : List Int} {j : Nat} (h : j < l.length) (hk : ¬ z1K (rd l (j : Int))) : z0d k l = false := by
 unfold z0d
 rw [dF (fun h2 => hk (h2 j h)), Bool.false_and]
theorem z5o (k : Int) (A : Option Addr) (c : Nat) (l : List Int) (w : World) (hr : Kd.C (Kd.int .i64) w A l.length l) (hc : l.length ≤ c) :
 Calls Tryz.prog 142 #[.agg #[.int .i64 k, .slice A l.length c]] w fun e w' => e = .returned (.bool (z0d k l)) ∧ Below w.heap.size w w' := by
 have hu115 := Tryz.underlying115
 have HB := hR w
 have HR := aS hr
 have HL := aS (Kd.z2k hr)
 clear hr hc
 go_enter Tryz.func142, Tryz.ntmps142
 go_wp2_with ((with_reducible refine zq (N := 1) rfl ?_); refine bx (N := 1) (cs := #[.int .i64 k, .slice A l.length c]) (t := 115) ?_; intro gi hg w1 hbox hb; have BKi := aS hbox; replace HB := aS (bs_ HB.out hb); clear hg hb hbox)
 go_loopg [3] (l.length + 1) (fun kq v3 w' => ∃ j : Nat, v3 = .int .i64 (j : Int) ∧ Aside0 (kq + j = l.length + 1 ∧ j ≤ l.length ∧ ∀ i < j, z1K (rd l (i : Int))) ∧ Aside0 (Below w.heap.size w w') ∧ Aside0 (w'.heap[gi]? = some (.cells #[.int .i64 k, .slice A l.length c] 115 (0, 0))))
 case atStart => exact ⟨0, rfl, ⟨rfl, Nat.zero_le _, fun i hi => absurd hi (Nat.not_lt_zero _)⟩, HB, BKi⟩
 case round =>
  clear HB BKi
  obtain ⟨j, rfl, HJ, HB, BKi⟩ := hrel
  obtain ⟨x0, x1⟩ := z2y BKi.out
  by_cases hj : j < l.length; rotate_left
  ·have c1 : ((j : Int) < (l.length : Int)) = False := eq_false (by omega)
   have c3 : (j < l.length) = False := eq_false hj
   have HA : Aside0 (z0d k l = (if k = 3 then decide (l.length = 1) else decide (k = 1 ∨ k = 2) && decide (l.length ≤ 3))) := ⟨by
    have h := HJ.out
    unfold z0d
    rw [dT (fun i hi => h.2.2 i (by omega)), Bool.true_and]⟩
   clear hj
   by_cases h3 : k = 3
   ·have k1 : (k == 3) = true := beq_iff_eq.2 h3
    have k2 : (k = 3) = True := eq_true h3
    rw [if_pos h3] at HA
    clear h3
    go_wp2
    refine bodyPost_ret (v := .bool (z0d k l)) (by rw [HA.out]; simp [results, Tryz.results142, go_sem]; first | done | omega | (rw [Bool.eq_iff_iff]; simp; done) | (rw [Bool.eq_iff_iff]; simp; omega)) rfl ⟨rfl, by first | exact HB.out | exact zd HB.out _⟩
   have k1 : (k == 3) = false := beq_eq_false_iff_ne.2 h3
   have k2 : (k = 3) = False := eq_false h3
   rw [if_neg h3] at HA
   clear h3
   by_cases h1 : k = 1
   ·have k3 : (k == 1) = true := beq_iff_eq.2 h1
    have k4 : (k = 1) = True := eq_true h1
    rw [dT (.inl h1), Bool.true_and] at HA
    clear h1
    go_wp2
    refine bodyPost_ret (v := .bool (z0d k l)) (by rw [HA.out]; simp [results, Tryz.results142, go_sem]; first | done | omega | (rw [Bool.eq_iff_iff]; simp; done) | (rw [Bool.eq_iff_iff]; simp; omega)) rfl ⟨rfl, by first | exact HB.out | exact zd HB.out _⟩
   ·have k3 : (k == 1) = false := beq_eq_false_iff_ne.2 h1
    have k4 : (k = 1) = False := eq_false h1
    by_cases h2 : k = 2
    ·have k5 : (k == 2) = true := beq_iff_eq.2 h2
     have k6 : (k = 2) = True := eq_true h2
     rw [dT (.inr h2), Bool.true_and] at HA
     clear h1 h2
     go_wp2
     refine bodyPost_ret (v := .bool (z0d k l)) (by rw [HA.out]; simp [results, Tryz.results142, go_sem]; first | done | omega | (rw [Bool.eq_iff_iff]; simp; done) | (rw [Bool.eq_iff_iff]; simp; omega)) rfl ⟨rfl, by first | exact HB.out | exact zd HB.out _⟩
    ·have k5 : (k == 2) = false := beq_eq_false_iff_ne.2 h2
     have k6 : (k = 2) = False := eq_false h2
     rw [dF (fun h => h.elim h1 h2), Bool.false_and] at HA
     clear h1 h2
     go_wp2
     refine bodyPost_ret (v := .bool (z0d k l)) (by rw [HA.out]; simp [results, Tryz.results142, go_sem]) rfl ⟨rfl, by first | exact HB.out | exact zd HB.out _⟩
  have c1 : (0 ≤ (j : Int)) = True := eq_true (by omega)
  have c2 : ((j : Int) < (l.length : Int)) = True := eq_true (by omega)
  have c3 : (j < l.length) = True := eq_true hj
  have c4 : wrap64 ((j : Int) + 1) = ((j + 1 : Nat) : Int) := by have := HL.out; unfold wrap64; omega
  obtain ⟨ad, rfl, hx⟩ := Kd.zT HR.out (j : Int) (by omega) (by omega)
  replace hx := ze HB.out hx
  rw [Int.toNat_natCast] at hx
  have HJ2 := aS hj
  obtain ⟨d, hd⟩ : ∃ d, rd l (j : Int) = d := ⟨_, rfl⟩
  rw [hd] at hx
  have HD := aS hd
  clear hj hd
  by_cases h1 : z1K d
  ·have k1 : decide (d < 1) = false := dF (by have := h1.1; omega)
   have k2 : decide (8 < d) = false := dF (by have := h1.2; omega)
   have k3 : (d < 1) = False := eq_false (by have := h1.1; omega)
   have k4 : (8 < d) = False := eq_false (by have := h1.2; omega)
   have H1 := aS h1
   clear h1
   go_wp2
   cases gk with
   | zero => exact absurd HJ.out.1 (by have := HJ2.out; omega)
   | succ k3 =>
    go_roundg k3
    case measure => omega
    case rel => exact ⟨j + 1, by first | rfl | rw [c4], ⟨by have := HJ.out.1; omega, by have := HJ2.out; omega, fun i hi => (Nat.lt_succ_iff_lt_or_eq.1 hi).elim (HJ.out.2.2 i) (fun h => by rw [h, HD.out]; exact H1.out)⟩, ⟨by first | exact HB.out | exact zd HB.out _⟩, ⟨by first | exact BKi.out | exact zf BKi.out (zd (Below.refl _ _) _)⟩⟩
  ·have H1 : Aside0 (z0d k l = false) := ⟨z7L HJ2.out (by rw [HD.out]; exact h1)⟩
   by_cases h2 : d < 1
   ·have k1 : decide (d < 1) = true := dT h2
    have k3 : (d < 1) = True := eq_true h2
    clear h1 h2
    go_wp2
    refine bodyPost_ret (v := .bool false) (by simp [results, Tryz.results142, go_sem]) rfl ⟨by rw [H1.out], by first | exact HB.out | exact zd HB.out _⟩
   ·have k1 : decide (d < 1) = false := dF h2
    have k3 : (d < 1) = False := eq_false h2
    have k2 : decide (8 < d) = true := dT (by unfold z1K at h1; omega)
    have k4 : (8 < d) = True := eq_true (by unfold z1K at h1; omega)
    clear h1 h2
    go_wp2
    refine bodyPost_ret (v := .bool false) (by simp [results, Tryz.results142, go_sem]) rfl ⟨by rw [H1.out], by first | exact HB.out | exact zd HB.out _⟩
def z17 (k : Int) (l : List Int) : Bool := z0d k l && !decide (k = 3)
theorem z4a (k : Int) (A : Option Addr) (c : Nat) (l : List Int) (w : World) (hr : Kd.C (Kd.int .i64) w A l.length l) (hc : l.length ≤ c) :
 Calls Tryz.prog 96 #[.agg #[.int .i64 k, .slice A l.length c]] w fun e w' => e = .returned (.bool (z17 k l)) ∧ Below w.heap.size w w' := by
 have hu115 := Tryz.underlying115
 have HB := hR w
 have HR := aS hr
 have HC := aS hc
 obtain ⟨t, ht⟩ : ∃ t, z0d k l = t := ⟨_, rfl⟩
 obtain ⟨rr, hrr⟩ : ∃ rr, z17 k l = rr := ⟨_, rfl⟩
 have HT := aS ht
 have HA : Aside0 (rr = (t && !decide (k = 3))) := ⟨by rw [← hrr, ← ht]; rfl⟩
 rw [hrr]
 clear hr hc ht hrr
 have q : (k = 3) = True ∧ (k == 3) = true ∨ (k = 3) = False ∧ (k == 3) = false := by
  by_cases h : k = 3
  ·exact .inl ⟨eq_true h, beq_iff_eq.2 h⟩
  ·exact .inr ⟨eq_false h, beq_eq_false_iff_ne.2 h⟩
 rcases q with ⟨q1, q2⟩ | ⟨q1, q2⟩ <;> cases t
 all_goals go_enter Tryz.func96, Tryz.ntmps96
 all_goals go_wp2_with (first | ((with_reducible refine zq (N := 1) rfl ?_); refine bx (N := 1) (cs := #[.int .i64 k, .slice A l.length c]) (t := 115) ?_; intro gi hg w1 hbox hb; have BKi := aS hbox; replace HB := aS (bs_ HB.out hb); obtain ⟨x0, x1⟩ := z2y BKi.out; clear hg hb hbox) | (go_at_call 142; (with_reducible refine (z5o k A c l _ (Kd.zK HR.out HB.out) HC.out).mono ?_); rw [HT.out]; rintro e w2 ⟨rfl, hb⟩; replace HB := aS (bs_ HB.out hb); replace BKi := aS (zf BKi.out hb); obtain ⟨x0, x1⟩ := z2y BKi.out; clear hb))
 all_goals refine bodyPost_ret (v := .bool rr) (by rw [HA.out]; simp [results, Tryz.results96, go_sem, q1]) rfl ⟨rfl, by first | exact HB.out | exact zd HB.out _⟩
def z2D (r : S50) : Bool := decide (64 < r.f1.length) || (decide (r.f2.length < 1) || (decide (64 < r.f2.length) || (decide (r.f3 < 1) || (decide (8192 < r.f3) || (decide (r.f3 < (r.f1.length : Int)) || (decide (r.f4.length < 1) || decide (65536 < r.f4.length)))))))
def z0n (l : List S50) (m : Nat) : Int :=
 if z1r (z8 l (m : Int)).f0 = false then 13
 else if decide (∀ i < m, (z8 l (i : Int)).f0.toList ≠ (z8 l (m : Int)).f0.toList) = false then 7
 else if decide (∀ i < ((z8 l (m : Int)).f1 ++ (z8 l (m : Int)).f2).length, z17 (yg ((z8 l (m : Int)).f1 ++ (z8 l (m : Int)).f2) (i : Int)).f0 (yg ((z8 l (m : Int)).f1 ++ (z8 l (m : Int)).f2) (i : Int)).f1 = true) = false then 12
 else if z2D (z8 l (m : Int)) = true then 3 else 0
theorem z5n (A0 : Option Addr) (c0 m : Nat) (l0 : List S50) (w : World) (hr0 : Kd.C k50 w A0 l0.length l0) (hc0 : l0.length ≤ c0) (hm : m < l0.length) (hs : (z8 l0 (m : Int)).f0.size ≤ 100000) (h1 : (z8 l0 (m : Int)).f1.length ≤ 100000) (h2 : (z8 l0 (m : Int)).f2.length ≤ 100000) :
    Calls Tryz.prog 33 #[.slice A0 l0.length c0, .int .i64 (m : Int)] w fun e w' => e = .returned (.int .i64 (z0n l0 m)) ∧ Below w.heap.size w w' := by
  have hu50 := Tryz.underlying50
  have hu115 := Tryz.underlying115
  have HR0 := aS hr0
  have HZ := aS (show m < l0.length ∧ (z8 l0 (m : Int)).f0.size ≤ 100000 ∧ (z8 l0 (m : Int)).f1.length ≤ 100000 ∧ (z8 l0 (m : Int)).f2.length ≤ 100000 ∧ l0.length ≤ 9223372036854775807 from ⟨hm, hs, h1, h2, Kd.z2k hr0⟩)
  have fa1 : (0 ≤ (m : Int)) = True := eq_true (by omega)
  have fa2 : ((m : Int) < (l0.length : Int)) = True := eq_true (by omega)
  have fa3 : (m < l0.length) = True := eq_true hm
  obtain ⟨ad, R1, k1, R2, k2, R4, k4, eA, x0, x1, x2, x3, x4, l1, g1, l2, g2, l4, g4⟩ := xW hr0 (m : Int) (by omega) (by omega)
  subst eA
  rw [Int.toNat_natCast] at x0 x1 x2 x3 x4
  have HG := aS (And.intro g1 (And.intro g2 (And.intro l1 l2)))
  clear hr0 hc0 hm hs h1 h2 l1 g1 l2 g2 l4 g4
  obtain ⟨rr, hrr⟩ : ∃ rr, z0n l0 m = rr := ⟨_, rfl⟩
  rw [hrr]
  have HH := aS hrr
  clear hrr
  obtain ⟨r, hr⟩ : ∃ r, z8 l0 (m : Int) = r := ⟨_, rfl⟩
  have HRD := aS hr
  rw [hr] at x0 x1 x2 x3 x4 HG HZ
  clear hr
  go_enter Tryz.func33, Tryz.ntmps33
  go_upto_region 2 with fail
  refine z2x (fun W => Below w.heap.size w W ∧ W.heap[w.heap.size]? = some (.cells #[.string r.f0, .slice R1 r.f1.length k1, .slice R2 r.f2.length k2, .int .i64 r.f3, .slice R4 r.f4.length k4] 50 (0, 0))) ⟨zl (Below.refl _ _) _, xt _ _⟩ ?_
  clear x0 x1 x2 x3 x4
  rintro w1 ⟨hB, hR⟩
  have HB := aS hB
  have BR := aS hR
  clear hB hR
  obtain ⟨r0, r1, r2, r3, r4⟩ := yL BR.out
  obtain ⟨t1, ht1⟩ : ∃ t, z1r r.f0 = t := ⟨_, rfl⟩
  have HT1 := aS ht1
  clear ht1
  cases t1 with
  | false =>
    have HA : Aside0 (rr = 13) := ⟨by rw [← HH.out]; unfold z0n; rw [HRD.out, HT1.out, if_pos rfl]⟩
    go_wp2_with (go_at_call 95; (with_reducible refine (z39 r.f0 _ (by have := HZ.out; omega)).mono ?_); rw [HT1.out]; rintro e w2 ⟨rfl, hb⟩; replace HB := aS (bs_ HB.out hb); clear hb)
    refine bodyPost_ret (v := .int .i64 13) (by simp [results, Tryz.results33, go_sem]) rfl ⟨by rw [HA.out], HB.out⟩
  | true =>
    go_wp2_with (go_at_call 95; (with_reducible refine (z39 r.f0 _ (by have := HZ.out; omega)).mono ?_); rw [HT1.out]; rintro e w2 ⟨rfl, hb⟩; replace HB := aS (bs_ HB.out hb); replace BR := aS (zf BR.out hb); clear hb r0 r1 r2 r3 r4)
    go_loopg [6] (m + 1) (fun kq v6 w' => ∃ j : Nat, v6 = .int .i64 (j : Int) ∧ Aside0 (kq + j = m + 1 ∧ j ≤ m ∧ ∀ i < j, (z8 l0 (i : Int)).f0.toList ≠ r.f0.toList) ∧ Aside0 (Below w.heap.size w w') ∧ Aside0 (w'.heap[w.heap.size]? = some (.cells #[.string r.f0, .slice R1 r.f1.length k1, .slice R2 r.f2.length k2, .int .i64 r.f3, .slice R4 r.f4.length k4] 50 (0, 0))))
    case atStart => exact ⟨0, rfl, ⟨rfl, Nat.zero_le _, fun i hi => absurd hi (Nat.not_lt_zero _)⟩, HB, BR⟩
    case round =>
      clear HB BR
      obtain ⟨j, rfl, HJ, HB, BR⟩ := hrel
      obtain ⟨r0, r1, r2, r3, r4⟩ := yL BR.out
      by_cases hj : j < m
      · have q1 : decide ((j : Int) < (m : Int)) = true := dT (by omega)
        have q2 := dT hj
        have q3 : (j < m) = True := eq_true hj
        have q4 : (0 ≤ (j : Int)) = True := eq_true (by omega)
        have q5 : ((j : Int) < (l0.length : Int)) = True := eq_true (by have := HZ.out; omega)
        have q6 : (j < l0.length) = True := eq_true (by have := HZ.out; omega)
        have q7 : wrap64 ((j : Int) + 1) = ((j + 1 : Nat) : Int) := by have := HZ.out; unfold wrap64; omega
        obtain ⟨ad2, _, _, _, _, _, _, eA, x0, _, _, _, _, _, _, _, _, _, _⟩ := xW (Kd.zK HR0.out HB.out) (j : Int) (by omega) (by have := HZ.out; omega)
        obtain rfl : ad = ad2 := (by injection eA)
        rw [Int.toNat_natCast] at x0
        have HJ2 := aS hj
        clear hj
        obtain ⟨nm, hnm⟩ : ∃ nm, (z8 l0 (j : Int)).f0 = nm := ⟨_, rfl⟩
        have HN := aS hnm
        rw [hnm] at x0
        clear hnm
        go_upto_region 7 with (fail)
        by_cases he : nm.toList = r.f0.toList
        · have HA : Aside0 (rr = 7) := ⟨by
            rw [← HH.out]; unfold z0n
            rw [HRD.out, HT1.out, if_neg (by decide), if_pos (dF (fun h => h j HJ2.out (by rw [HN.out]; exact he)))]⟩
          have e1 : (nm.toList == r.f0.toList) = true := beq_iff_eq.2 he
          have e2 : (nm.toList = r.f0.toList) = True := eq_true he
          clear he
          go_quiet (fail)
          go_wp2
          refine bodyPost_ret (v := .int .i64 7) (by simp [results, Tryz.results33, go_sem]) rfl ⟨by rw [HA.out], zd HB.out _⟩
        · have e1 : (nm.toList == r.f0.toList) = false := beq_eq_false_iff_ne.2 he
          have e2 : (nm.toList = r.f0.toList) = False := eq_false he
          have HE := aS he
          clear he
          go_quiet (fail)
          go_wp2
          cases gk with
          | zero => exact absurd HJ.out.1 (by have := HJ2.out; omega)
          | succ k3 =>
            go_roundg k3
            case measure => omega
            case rel => exact ⟨j + 1, by first | rfl | rw [q7], ⟨by have := HJ.out.1; omega, by have := HJ2.out; omega, fun i hi => (Nat.lt_succ_iff_lt_or_eq.1 hi).elim (HJ.out.2.2 i) (fun h => by rw [h, HN.out]; exact HE.out)⟩, ⟨zd HB.out _⟩, ⟨zf BR.out (zd (Below.refl _ _) _)⟩⟩
      · have q1 : decide ((j : Int) < (m : Int)) = false := dF (by omega)
        have q2 := dF hj
        have q3 : (j < m) = False := eq_false hj
        have HT2 : Aside0 (∀ i < m, (z8 l0 (i : Int)).f0.toList ≠ r.f0.toList) := ⟨fun i hi => HJ.out.2.2 i (by omega)⟩
        clear hj HJ
        go_upto_region 9 with (fail)
        replace BR := aS (yb BR.out)
        replace HB := aS (zD HB.out)
        have HLT : Aside0 (w.heap.size < wr.drew.heap.size) := ⟨(Array.getElem?_eq_some_iff.1 BR.out).1⟩
        clear r0 r1 r2 r3 r4
        refine z16 (n := 9) (S := fun w' => w'.cell? ⟨w.heap.size, 1, none⟩ = some (.slice R1 r.f1.length k1) ∧ w'.cell? ⟨w.heap.size, 2, none⟩ = some (.slice R2 r.f2.length k2)) (ds := []) #[false, false, false, false, false, false, false, false, false] (by kernel_rfl) rfl rfl ⟨(yL BR.out).2.1, (yL BR.out).2.2.1⟩ (fun hHeld => ?_)
        refine z5L (i := 1) (N := some 31) (v := ?_) (a' := ?_) #[false, true, false, false, false, false, false, false, false] rfl rfl (by kernel_rfl) (fun _ _ _ h => h) (Or.inl ⟨by rfl, ?_⟩) ?_ ?_
        rotate_left
        · intro w'
          go_simp
          with_reducible rfl
        rotate_left
        · simp only [Act.put, List.setIfInBounds_toArray, List.set_cons_zero, List.set_cons_succ, yh, yQ]
          rfl
        refine z5L (i := 4) (N := some 34) (v := ?_) (a' := ?_) #[false, true, false, false, true, false, false, false, false] rfl rfl (by kernel_rfl) (fun _ _ _ h => h) (Or.inl ⟨by rfl, ?_⟩) ?_ ?_
        rotate_left
        · intro w'
          go_simp
          with_reducible rfl
        rotate_left
        · simp only [Act.put, List.setIfInBounds_toArray, List.set_cons_zero, List.set_cons_succ, yh, yQ]
          rfl
        refine z5L (i := 8) (N := some 38) (v := ?_) (a' := ?_) #[false, true, false, false, true, false, false, false, true] rfl rfl (by kernel_rfl) (fun _ _ _ h => h) (Or.inl ⟨by rfl, ?_⟩) ?_ ?_
        rotate_left
        · intro w'
          go_simp
          with_reducible rfl
        rotate_left
        · simp only [Act.put, List.setIfInBounds_toArray, List.set_cons_zero, List.set_cons_succ, yh, yQ]
          rfl
        refine z55 (i := 2) (N := some 32) (v := ?_) (a' := ?_) #[false, true, true, false, true, false, false, false, true] rfl rfl (by kernel_rfl) (fun _ _ _ h => h) (Or.inl ⟨by rfl, ?_⟩) hHeld ?_ ?_
        rotate_left
        · rintro w' ⟨s0, s1⟩
          go_simp
          with_reducible rfl
        rotate_left
        · simp only [Act.put, List.setIfInBounds_toArray, List.set_cons_zero, List.set_cons_succ, yh, yQ]
          rfl
        refine z55 (i := 5) (N := some 35) (v := ?_) (a' := ?_) #[false, true, true, false, true, true, false, false, true] rfl rfl (by kernel_rfl) (fun _ _ _ h => h) (Or.inl ⟨by rfl, ?_⟩) hHeld ?_ ?_
        rotate_left
        · rintro w' ⟨s0, s1⟩
          go_simp
          with_reducible rfl
        rotate_left
        · simp only [Act.put, List.setIfInBounds_toArray, List.set_cons_zero, List.set_cons_succ, yh, yQ]
          rfl
        refine z0Z (i := 0) (N := some 30) #[true, true, true, false, true, true, false, false, true] rfl rfl (by kernel_rfl) (by decide) (fun K hK => ?_)
        refine Kd.z7j xC (w0 := w) w.heap.size 115 (by rfl) (N' := 30) rfl (xs := ([] : List xx)) (inner := []) (ok := fun _ => True) (okp := fun _ => True) ?hr (zQ.none _ _) (fun _ hk => hk) trivial HB.out HB.out.size (by decide) ?_
        (case hr => first | (go_simp; done) | (go_simp; rfl))
        intro va wa hN hb hg hnew
        have HNa := aS hN; have HBa := aS hb; have BRa := aS ((hg.block _ HLT.out (by simp)).trans BR.out)
        have NEa : Aside0 (∀ b, va.ownBlock = some b → w.heap.size < b) := ⟨fun b e => by obtain ⟨b2, e2, h2⟩ := hnew; rw [e2] at e; injection e with e; have := HLT.out; omega⟩
        clear hN hb hg hnew
        refine hK.out _ _ ⟨(yL BRa.out).2.1, (yL BRa.out).2.2.1⟩ (fun hHeld => ?_)
        clear hK K
        refine xY (a' := ?_) ?_ ?_
        rotate_left
        · show Act.put _ (some 30) _ = _
          simp only [Act.put, List.setIfInBounds_toArray, List.set_cons_zero, List.set_cons_succ, yh, yQ]
          rfl
        refine z0Z (i := 3) (N := some 33) #[true, true, true, true, true, true, false, false, true] rfl rfl (by kernel_rfl) (by decide) (fun K hK => ?_)
        refine Kd.z1v xC (w0 := w) w.heap.size (by rfl) (.tmp 30) (.tmp 32) 47 115 (.agg #[(.int .i64 0), (.slice none 0 0)]) 32 rfl Tryz.underlying47 z2d rfl (by decide) (by omega) va [] r.f1 R1 r.f1.length k1 (fun _ => True) (fun k => k < w.heap.size) rfl rfl HNa.out ?hF ?hokp (fun _ _ => trivial) HBa.out HBa.out.size ?hl ?_
        (case hF => exact fun _ hW => z2R.C (fun k hlt => (hW k hlt (Nat.lt_of_lt_of_le hlt HBa.out.size)).trans (HBa.out.block k hlt)) HG.out.1)
        (case hokp => exact fun k hk => ⟨trivial, fun e => by have := Kd.z0i HNa.out k e.symm; omega⟩)
        (case hl => have := HZ.out; simp only [List.length_append, List.length_nil]; omega)
        intro vb wb hN hb hg hat
        have HNb := aS hN; have HBb := aS hb
        have HLTb : Aside0 (w.heap.size < wa.heap.size) := ⟨(Array.getElem?_eq_some_iff.1 BRa.out).1⟩
        have BRb := aS ((hg.block _ HLTb.out (fun e => Nat.lt_irrefl _ (NEa.out _ e.symm))).trans BRa.out)
        have NEb : Aside0 (∀ b, vb.ownBlock = some b → w.heap.size < b) := ⟨fun b e => match hat with | .inl h => NEa.out b (by rw [← h]; exact e) | .inr ⟨b2, e2, h2⟩ => by rw [e2] at e; injection e with e; have := HLTb.out; omega⟩
        clear hN hb hg hat
        refine hK.out _ _ ⟨(yL BRb.out).2.1, (yL BRb.out).2.2.1⟩ (fun hHeld => ?_)
        clear hK K
        refine xY (a' := ?_) ?_ ?_
        rotate_left
        · show Act.put _ (some 33) _ = _
          simp only [Act.put, List.setIfInBounds_toArray, List.set_cons_zero, List.set_cons_succ, yh, yQ]
          rfl
        refine z0Z (i := 6) (N := some 36) #[true, true, true, true, true, true, true, false, true] rfl rfl (by kernel_rfl) (by decide) (fun K hK => ?_)
        refine Kd.z1v xC (w0 := w) w.heap.size (by rfl) (.tmp 33) (.tmp 35) 47 115 (.agg #[(.int .i64 0), (.slice none 0 0)]) 32 rfl Tryz.underlying47 z2d rfl (by decide) (by omega) vb ([] ++ r.f1) r.f2 R2 r.f2.length k2 (fun _ => True) (fun k => k < w.heap.size) rfl rfl HNb.out ?hF ?hokp (fun _ _ => trivial) HBb.out HBb.out.size ?hl ?_
        (case hF => exact fun _ hW => z2R.C (fun k hlt => (hW k hlt (Nat.lt_of_lt_of_le hlt HBb.out.size)).trans (HBb.out.block k hlt)) HG.out.2.1)
        (case hokp => exact fun k hk => ⟨trivial, fun e => by have := Kd.z0i HNb.out k e.symm; omega⟩)
        (case hl => have := HZ.out; simp only [List.length_append, List.length_nil]; omega)
        intro vc wc hN hb hg hat
        have HNc := aS hN; have HBc := aS hb
        have HLTc : Aside0 (w.heap.size < wb.heap.size) := ⟨(Array.getElem?_eq_some_iff.1 BRb.out).1⟩
        have BRc := aS ((hg.block _ HLTc.out (fun e => Nat.lt_irrefl _ (NEb.out _ e.symm))).trans BRb.out)
        have NEc : Aside0 (∀ b, vc.ownBlock = some b → w.heap.size < b) := ⟨fun b e => match hat with | .inl h => NEb.out b (by rw [← h]; exact e) | .inr ⟨b2, e2, h2⟩ => by rw [e2] at e; injection e with e; have := HLTc.out; omega⟩
        clear hN hb hg hat
        obtain ⟨Ac, cc, rfl⟩ := Kd.z0x HNc.out
        refine hK.out _ _ ⟨(yL BRc.out).2.1, (yL BRc.out).2.2.1⟩ (fun hHeld => ?_)
        clear hK K
        refine xY (a' := ?_) ?_ ?_
        rotate_left
        · show Act.put _ (some 36) _ = _
          simp only [Act.put, List.setIfInBounds_toArray, List.set_cons_zero, List.set_cons_succ, yh, yQ]
          rfl
        refine z5L (i := 7) (N := some 37) (v := ?_) (a' := ?_) #[true, true, true, true, true, true, true, true, true] rfl rfl (by kernel_rfl) (fun _ _ _ h => h) (Or.inl ⟨by rfl, ?_⟩) ?_ ?_
        rotate_left
        · intro w'
          go_simp
          with_reducible rfl
        rotate_left
        · simp only [Act.put, List.setIfInBounds_toArray, List.set_cons_zero, List.set_cons_succ, yh, yQ]
          rfl
        refine z1U (by kernel_rfl) ?_
        have HCc := aS (Kd.yD HNc.out)
        clear HNa HNb HNc NEa NEb NEc HBa HBb BRa BRb HLT HLTb HLTc
        have HCc2 : Aside0 (Kd.C xC wc Ac ((([] ++ r.f1) ++ r.f2).length) (([] ++ r.f1) ++ r.f2)) := ⟨HCc.out.2.2⟩
        have HTL : Aside0 ((([] : List xx) ++ r.f1) ++ r.f2 = r.f1 ++ r.f2) := ⟨by simp⟩
        have HNL : Aside0 ((([] ++ r.f1) ++ r.f2).length ≤ 200000) := ⟨by have := HZ.out; simp only [List.length_append, List.length_nil]; omega⟩
        have HLE : Aside0 ((r.f1.length : Int) + (r.f2.length : Int) = ((([] ++ r.f1) ++ r.f2).length : Int)) := ⟨by simp⟩
        clear HCc
        generalize ([] ++ r.f1) ++ r.f2 = ts at HCc2 HTL HNL HLE ⊢
        go_upto_block 2 with (fail)
        rw [HLE.out]
        go_wp2_with fail
        go_loopg [38] (ts.length + 1) (fun kq v38 w' => ∃ j : Nat, v38 = .int .i64 (j : Int) ∧ Aside0 (kq + j = ts.length + 1 ∧ j ≤ ts.length ∧ ∀ i < j, z17 (yg ts (i : Int)).f0 (yg ts (i : Int)).f1 = true) ∧ Aside0 (Below wc.heap.size wc w'))
        case atStart => exact ⟨0, rfl, ⟨rfl, Nat.zero_le _, fun i hi => absurd hi (Nat.not_lt_zero _)⟩, ⟨Below.refl _ _⟩⟩
        case round =>
          obtain ⟨j2, rfl, HJ, HW⟩ := hrel
          by_cases hj : j2 < ts.length
          · have q1 : decide ((j2 : Int) < (ts.length : Int)) = true := dT (by omega)
            have q2 := dT hj
            have q3 : (j2 < ts.length) = True := eq_true hj
            have q4 : (0 ≤ (j2 : Int)) = True := eq_true (by omega)
            have q5 : ((j2 : Int) < (ts.length : Int)) = True := eq_true (by omega)
            have q7 : wrap64 ((j2 : Int) + 1) = ((j2 + 1 : Nat) : Int) := by have := HNL.out; unfold wrap64; omega
            obtain ⟨ad3, A1, c1, rfl, y0, y1, l1, g1⟩ := z2b (Kd.zK HCc2.out HW.out) (j2 : Int) (by omega) (by omega)
            rw [Int.toNat_natCast] at y0 y1
            have HJ2 := aS hj
            obtain ⟨x, hx⟩ : ∃ x, yg ts (j2 : Int) = x := ⟨_, rfl⟩
            rw [hx] at y0 y1 l1 g1
            have HX := aS hx
            have HG1 := aS (And.intro l1 g1)
            obtain ⟨t3, ht3⟩ : ∃ t, z17 x.f0 x.f1 = t := ⟨_, rfl⟩
            have HT3 := aS ht3
            clear hj hx l1 g1 ht3
            cases t3 with
            | false =>
              have HA : Aside0 (rr = 12) := ⟨by
                rw [← HH.out]; unfold z0n
                rw [HRD.out, HT1.out, if_neg (by decide), if_neg (by rw [dT HT2.out]; decide), if_pos]
                rw [← HTL.out]
                exact dF (fun h => by have := h j2 HJ2.out; rw [HX.out, HT3.out] at this; cases this)⟩
              go_wp2_with (go_at_call 96; (with_reducible refine (z4a x.f0 A1 c1 x.f1 _ (Kd.z02 HG1.out.2 _) HG1.out.1).mono ?_); rw [HT3.out]; rintro e w4 ⟨rfl, hb⟩; replace HW := aS (bs_ (zl HW.out _) hb); clear hb)
              refine bodyPost_ret (v := .int .i64 12) (by simp [results, Tryz.results33, go_sem]) rfl ⟨by rw [HA.out], bs_ HBc.out HW.out⟩
            | true =>
              go_wp2_with (go_at_call 96; (with_reducible refine (z4a x.f0 A1 c1 x.f1 _ (Kd.z02 HG1.out.2 _) HG1.out.1).mono ?_); rw [HT3.out]; rintro e w4 ⟨rfl, hb⟩; replace HW := aS (bs_ (zl HW.out _) hb); clear hb)
              cases gk with
              | zero => exact absurd HJ.out.1 (by have := HJ2.out; omega)
              | succ k3 =>
                go_roundg k3
                case measure => omega
                case rel => exact ⟨j2 + 1, by first | rfl | rw [q7], ⟨by have := HJ.out.1; omega, by have := HJ2.out; omega, fun i hi => (Nat.lt_succ_iff_lt_or_eq.1 hi).elim (HJ.out.2.2 i) (fun h => by rw [h, HX.out]; exact HT3.out)⟩, HW⟩
          · have q1 : decide ((j2 : Int) < (ts.length : Int)) = false := dF (by omega)
            have q2 := dF hj
            have q3 : (j2 < ts.length) = False := eq_false hj
            have q5 : ((j2 : Int) < (ts.length : Int)) = False := eq_false (by omega)
            have HA : Aside0 (rr = if z2D r = true then 3 else 0) := ⟨by
              rw [← HH.out]; unfold z0n
              rw [HRD.out, HT1.out, if_neg (by decide), if_neg (by rw [dT HT2.out]; decide), if_neg]
              rw [← HTL.out, dT (fun i hi => HJ.out.2.2 i (by have := HJ.out; omega))]
              decide⟩
            have BRw := aS (zf BRc.out HW.out)
            obtain ⟨r0, r1, r2, r3, r4⟩ := yL BRw.out
            clear hj HJ
            go_wp2
            all_goals first
              | (have hl : z2D r = true := by
                   unfold z2D; simp only [Bool.or_eq_true, decide_eq_true_eq]; omega
                 refine bodyPost_ret (v := .int .i64 3) (by simp [results, Tryz.results33, go_sem]) rfl ⟨by rw [HA.out, if_pos hl], bs_ HBc.out HW.out⟩)
              | (have hl : z2D r = false := by
                   unfold z2D; simp only [Bool.or_eq_false_iff, decide_eq_false_iff_not]; omega
                 refine bodyPost_ret (v := .int .i64 0) (by simp [results, Tryz.results33, go_sem]) rfl ⟨by rw [HA.out, if_neg (by rw [hl]; decide)], bs_ HBc.out HW.out⟩)
              | trace_state
def z3p (r : S50) : Bool := decide (r.f0.size ≤ 100000) && (decide (r.f1.length ≤ 100000) && decide (r.f2.length ≤ 100000))
theorem z0X {r : S50} : z3p r = true ↔ r.f0.size ≤ 100000 ∧ r.f1.length ≤ 100000 ∧ r.f2.length ≤ 100000 := by
 unfold z3p
 simp only [Bool.and_eq_true, decide_eq_true_eq]
def z4Q (l : List S50) (a1 : Int) : Option Int := if 0 ≤ a1 ∧ a1 < (l.length : Int) ∧ z3p (z8 l a1) = true then some (z0n l a1.toNat) else none
def z0h.f (l : List S50) (a1 : Int) : Option Int := z4Q l a1
theorem z0h.calls (A0 : Option Addr) (c0 : Nat) (l0 : List S50) (a1 r : Int) (w : World) (hr0 : Kd.C k50 w A0 l0.length l0) (hc0 : l0.length ≤ c0) (h : z0h.f l0 a1 = some r) :
 Calls Tryz.prog 33 #[.slice A0 l0.length c0, .int .i64 a1] w fun e w' => e = .returned (.int .i64 r) ∧ Below w.heap.size w w' := by
 unfold z0h.f z4Q at h
 by_cases hat : 0 ≤ a1 ∧ a1 < (l0.length : Int) ∧ z3p (z8 l0 a1) = true
 ·rw [if_pos hat] at h
  obtain rfl := sI h
  obtain ⟨m, rfl⟩ := Int.eq_ofNat_of_zero_le hat.1
  have hs := z0X.1 hat.2.2
  exact z5n A0 c0 m l0 w hr0 hc0 (by have := hat.2.1; omega) hs.1 hs.2.1 hs.2.2
 ·rw [if_neg hat] at h
  cases h
end Go.Proofs.QP

namespace Go.Proofs
open Go.Shelf
def Tryz.z6V : Go.Shelf.Ren := ⟨fun | 170 => 50 | n => n, fun | 70 => 83 | 3 => 3 | 0 => 0 | 72 => 85 | 37 => 30 | 5 => 5 | n => n, fun | n => n⟩
theorem Tryz.zbR : Go.Proofs.Lays.n170 Tryz.prog Tryz.z6V := {
 mixed := by kernel_rfl
 f170 := Tryz.func50.trans (congrArg some (by kernel_rfl))
 t0 := Tryz.underlying0
 a0 := Tryz.isAgg0
 z0 := Tryz.sizeOf0
 v0 := Tryz.zeroValue0
 t3 := Tryz.underlying3
 a3 := Tryz.isAgg3
 z3 := Tryz.sizeOf3
 v3 := Tryz.zeroValue3
 t37 := Tryz.underlying30
 a37 := Tryz.isAgg30
 z37 := Tryz.sizeOf30
 v37 := Tryz.zeroValue30
 t70 := Tryz.underlying83
 a70 := Tryz.isAgg83
 z70 := Tryz.sizeOf83
 v70 := Tryz.zeroValue83
 t72 := Tryz.underlying85
 a72 := Tryz.isAgg85
 z72 := Tryz.sizeOf85
 v72 := Tryz.zeroValue85 }
def Tryz.z45 : Go.Shelf.Ren := ⟨fun | 169 => 51 | n => n, fun | 70 => 83 | 9 => 9 | 0 => 0 | 72 => 85 | 37 => 30 | 127 => 153 | 3 => 3 | 5 => 5 | n => n, fun | n => n⟩
theorem Tryz.zbQ : Go.Proofs.Lays.n169 Tryz.prog Tryz.z45 := {
 mixed := by kernel_rfl
 f169 := Tryz.func51.trans (congrArg some (by kernel_rfl))
 t0 := Tryz.underlying0
 a0 := Tryz.isAgg0
 z0 := Tryz.sizeOf0
 v0 := Tryz.zeroValue0
 t3 := Tryz.underlying3
 a3 := Tryz.isAgg3
 z3 := Tryz.sizeOf3
 v3 := Tryz.zeroValue3
 t9 := Tryz.underlying9
 a9 := Tryz.isAgg9
 z9 := Tryz.sizeOf9
 v9 := Tryz.zeroValue9
 t37 := Tryz.underlying30
 a37 := Tryz.isAgg30
 z37 := Tryz.sizeOf30
 v37 := Tryz.zeroValue30
 t70 := Tryz.underlying83
 a70 := Tryz.isAgg83
 z70 := Tryz.sizeOf83
 v70 := Tryz.zeroValue83
 t72 := Tryz.underlying85
 a72 := Tryz.isAgg85
 z72 := Tryz.sizeOf85
 v72 := Tryz.zeroValue85
 t127 := Tryz.underlying153
 a127 := Tryz.isAgg153
 z127 := Tryz.sizeOf153
 v127 := Tryz.zeroValue153 }
theorem Tryz.z3q : Builder.Extra Tryz.prog Tryz.z45 := {
 sizeBuilder := by kernel_rfl
 liesBuilder := by kernel_rfl
 t5 := Tryz.underlying5
 a5 := Tryz.isAgg5
 z5 := Tryz.sizeOf5
 v5 := Tryz.zeroValue5
 infoByte := by kernel_rfl
 cellsByte := by kernel_rfl
 sizeByte := by kernel_rfl
 neB5 := by decide }
def Tryz.z44 : Go.Shelf.Ren := ⟨fun | 156 => 105 | 165 => 146 | 166 => 46 | 169 => 51 | 240 => 103 | 241 => 183 | 276 => 145 | 277 => 214 | n => n, fun | 31 => 130 | 9 => 9 | 3 => 3 | 4 => 4 | 0 => 0 | 20 => 20 | 72 => 85 | 76 => 88 | 70 => 83 | 37 => 30 | 75 => 87 | 127 => 153 | 164 => 184 | 5 => 5 | 80 => 94 | n => n, fun | n => n⟩
theorem Tryz.z8F : Go.Proofs.Lays.n156 Tryz.prog Tryz.z44 := {
 mixed := by kernel_rfl
 f156 := Tryz.func105.trans (congrArg some (by kernel_rfl))
 f165 := Tryz.func146.trans (congrArg some (by kernel_rfl))
 f166 := Tryz.func46.trans (congrArg some (by kernel_rfl))
 f169 := Tryz.func51.trans (congrArg some (by kernel_rfl))
 f240 := Tryz.func103.trans (congrArg some (by kernel_rfl))
 f241 := Tryz.func183.trans (congrArg some (by kernel_rfl))
 f276 := Tryz.func145.trans (congrArg some (by kernel_rfl))
 f277 := Tryz.func214.trans (congrArg some (by kernel_rfl))
 t0 := Tryz.underlying0
 a0 := Tryz.isAgg0
 z0 := Tryz.sizeOf0
 v0 := Tryz.zeroValue0
 t3 := Tryz.underlying3
 a3 := Tryz.isAgg3
 z3 := Tryz.sizeOf3
 v3 := Tryz.zeroValue3
 t4 := Tryz.underlying4
 a4 := Tryz.isAgg4
 z4 := Tryz.sizeOf4
 v4 := Tryz.zeroValue4
 t9 := Tryz.underlying9
 a9 := Tryz.isAgg9
 z9 := Tryz.sizeOf9
 v9 := Tryz.zeroValue9
 t20 := Tryz.underlying20
 a20 := Tryz.isAgg20
 z20 := Tryz.sizeOf20
 v20 := Tryz.zeroValue20
 t31 := Tryz.underlying130
 a31 := Tryz.isAgg130
 z31 := Tryz.sizeOf130
 v31 := Tryz.zeroValue130
 t37 := Tryz.underlying30
 a37 := Tryz.isAgg30
 z37 := Tryz.sizeOf30
 v37 := Tryz.zeroValue30
 t70 := Tryz.underlying83
 a70 := Tryz.isAgg83
 z70 := Tryz.sizeOf83
 v70 := Tryz.zeroValue83
 t72 := Tryz.underlying85
 a72 := Tryz.isAgg85
 z72 := Tryz.sizeOf85
 v72 := Tryz.zeroValue85
 t75 := Tryz.underlying87
 a75 := Tryz.isAgg87
 z75 := Tryz.sizeOf87
 v75 := Tryz.zeroValue87
 t76 := Tryz.underlying88
 a76 := Tryz.isAgg88
 z76 := Tryz.sizeOf88
 v76 := Tryz.zeroValue88
 t127 := Tryz.underlying153
 a127 := Tryz.isAgg153
 z127 := Tryz.sizeOf153
 v127 := Tryz.zeroValue153
 t164 := Tryz.underlying184
 a164 := Tryz.isAgg184
 z164 := Tryz.sizeOf184
 v164 := Tryz.zeroValue184 }
theorem Tryz.z1H : Builder.Extra Tryz.prog Tryz.z44 := {
 sizeBuilder := by kernel_rfl
 liesBuilder := by kernel_rfl
 t5 := Tryz.underlying5
 a5 := Tryz.isAgg5
 z5 := Tryz.sizeOf5
 v5 := Tryz.zeroValue5
 infoByte := by kernel_rfl
 cellsByte := by kernel_rfl
 sizeByte := by kernel_rfl
 neB5 := by decide }
open Go.RowKit in
theorem Tryz.strings_Join_none (a : Option Addr) (c : Nat) (sep : ByteArray) (w : World) :
 Calls Tryz.prog 105 #[.slice a 0 c, .string sep] w fun e w' => e = .returned (.string ⟨#[]⟩) ∧ w' = w := Any.strings_Join_none Tryz.z8F Tryz.z1H a c sep w
open Go.RowKit in
theorem Tryz.strings_Join (bk o c : Nat) (xs : List ByteArray) (sep : ByteArray) (w : World) (hcells : ∀ (j : Nat) x, xs[j]? = some x → w.cell? ⟨bk, o + j, none⟩ = some (.string x)) (hbk : bk < w.heap.size) (hN : xs.length ≤ 140737488355328) (hcap : xs.length ≤ c) (hlen : (Lib.join (xs.map (·.data.toList)) sep.data.toList).length ≤ 140737488355328) :
 Calls Tryz.prog 105 #[.slice (some ⟨bk, o, none⟩) xs.length c, .string sep] w fun e w' => e = .returned (.string ⟨(Lib.join (xs.map (·.data.toList)) sep.data.toList).toArray⟩) ∧ Below w.heap.size w w' := Any.strings_Join Tryz.z8F Tryz.z1H bk o c xs sep w hcells hbk hN hcap hlen
def Tryz.z6U : Go.Shelf.Ren := ⟨fun | 160 => 135 | 232 => 167 | 231 => 166 | 227 => 168 | 234 => 170 | 233 => 169 | 236 => 172 | 235 => 171 | 228 => 206 | 271 => 209 | 151 => 208 | 197 => 207 | 120 => 233 | 152 => 232 | 260 => 231 | 137 => 125 | 119 => 243 | 224 => 193 | 225 => 192 | 217 => 154 | 266 => 196 | n => n, fun | 9 => 9 | 4 => 4 | 3 => 3 | 5 => 5 | 117 => 209 | 116 => 208 | 0 => 0 | 124 => 212 | 21 => 21 | 105 => 233 | 46 => 148 | 119 => 267 | 139 => 270 | 138 => 269 | n => n, fun | 3 => 7 | 4 => 8 | n => n⟩
theorem Tryz.zbP : Go.Proofs.Lays.n160 Tryz.prog Tryz.z6U := {
 mixed := by kernel_rfl
 f119 := Tryz.func243.trans (congrArg some (by kernel_rfl))
 f120 := Tryz.func233.trans (congrArg some (by kernel_rfl))
 f137 := Tryz.func125.trans (congrArg some (by kernel_rfl))
 f151 := Tryz.func208.trans (congrArg some (by kernel_rfl))
 f152 := Tryz.func232.trans (congrArg some (by kernel_rfl))
 f160 := Tryz.func135.trans (congrArg some (by kernel_rfl))
 f197 := Tryz.func207.trans (congrArg some (by kernel_rfl))
 f217 := Tryz.func154.trans (congrArg some (by kernel_rfl))
 f224 := Tryz.func193.trans (congrArg some (by kernel_rfl))
 f225 := Tryz.func192.trans (congrArg some (by kernel_rfl))
 f227 := Tryz.func168.trans (congrArg some (by kernel_rfl))
 f228 := Tryz.func206.trans (congrArg some (by kernel_rfl))
 f231 := Tryz.func166.trans (congrArg some (by kernel_rfl))
 f232 := Tryz.func167.trans (congrArg some (by kernel_rfl))
 f233 := Tryz.func169.trans (congrArg some (by kernel_rfl))
 f234 := Tryz.func170.trans (congrArg some (by kernel_rfl))
 f235 := Tryz.func171.trans (congrArg some (by kernel_rfl))
 f236 := Tryz.func172.trans (congrArg some (by kernel_rfl))
 f260 := Tryz.func231.trans (congrArg some (by kernel_rfl))
 f266 := Tryz.func196.trans (congrArg some (by kernel_rfl))
 f271 := Tryz.func209.trans (congrArg some (by kernel_rfl))
 t0 := Tryz.underlying0
 a0 := Tryz.isAgg0
 z0 := Tryz.sizeOf0
 v0 := Tryz.zeroValue0
 t3 := Tryz.underlying3
 a3 := Tryz.isAgg3
 z3 := Tryz.sizeOf3
 v3 := Tryz.zeroValue3
 t4 := Tryz.underlying4
 a4 := Tryz.isAgg4
 z4 := Tryz.sizeOf4
 v4 := Tryz.zeroValue4
 t5 := Tryz.underlying5
 a5 := Tryz.isAgg5
 z5 := Tryz.sizeOf5
 v5 := Tryz.zeroValue5
 t9 := Tryz.underlying9
 a9 := Tryz.isAgg9
 z9 := Tryz.sizeOf9
 v9 := Tryz.zeroValue9
 t21 := Tryz.underlying21
 a21 := Tryz.isAgg21
 z21 := Tryz.sizeOf21
 v21 := Tryz.zeroValue21
 t46 := Tryz.underlying148
 a46 := Tryz.isAgg148
 z46 := Tryz.sizeOf148
 v46 := Tryz.zeroValue148
 t105 := Tryz.underlying233
 a105 := Tryz.isAgg233
 z105 := Tryz.sizeOf233
 v105 := Tryz.zeroValue233
 t116 := Tryz.underlying208
 a116 := Tryz.isAgg208
 z116 := Tryz.sizeOf208
 t117 := Tryz.underlying209
 a117 := Tryz.isAgg209
 z117 := Tryz.sizeOf209
 v117 := Tryz.zeroValue209
 t119 := Tryz.underlying267
 a119 := Tryz.isAgg267
 z119 := Tryz.sizeOf267
 t124 := Tryz.underlying212
 a124 := Tryz.isAgg212
 z124 := Tryz.sizeOf212
 v124 := Tryz.zeroValue212
 t138 := Tryz.underlying269
 a138 := Tryz.isAgg269
 z138 := Tryz.sizeOf269
 v138 := Tryz.zeroValue269
 t139 := Tryz.underlying270
 a139 := Tryz.isAgg270
 z139 := Tryz.sizeOf270
 v139 := Tryz.zeroValue270
 g3 := by kernel_rfl
 g4 := by kernel_rfl }
open Go.RowKit in
theorem Tryz.Builder_Len_f (B b : Nat) (bs : List Value) (w : World) (h : Lib.IsBuilderF 85 5 B b bs w) :
 Calls Tryz.prog 50 #[.pointer (some ⟨b, 0, none⟩)] w fun e w' => e = .returned (.int .i64 bs.length) ∧ w' = w := Any.Builder_Len_f Tryz.zbR B b bs w h
open Go.RowKit in
theorem Tryz.Builder_String_any_k (B b : Nat) (l : List UInt8) (w : World) (h : Lib.IsBuilderF 85 5 B b (Lib.byteCells l) w) (hBw : B ≤ w.heap.size) :
 Calls Tryz.prog 51 #[.pointer (some ⟨b, 0, none⟩)] w fun e w' => e = .returned (.string ⟨l.toArray⟩) ∧ (Lib.IsBuilderF 85 5 B b (Lib.byteCells l) w' ∧ Below B w w' ∧ Lib.OthersKept 5 (some b) w w') := Any.Builder_String_any_k Tryz.zbQ Tryz.z3q B b l w h hBw
def Tryz.z6W : Go.Shelf.Ren := ⟨fun | 171 => 48 | 243 => 106 | 246 => 147 | 283 => 184 | 284 => 185 | 285 => 186 | 286 => 187 | 129 => 216 | 317 => 215 | 318 => 217 | 319 => 218 | 320 => 219 | 337 => 236 | 338 => 237 | n => n, fun | 3 => 3 | 9 => 9 | 2 => 2 | 4 => 4 | 171 => 219 | 0 => 0 | 53 => 146 | 37 => 30 | 5 => 5 | 173 => 221 | 212 => 242 | 51 => 145 | 20 => 20 | 213 => 243 | 46 => 148 | 232 => 275 | 233 => 276 | n => n, fun | 17 => 4 | 18 => 9 | 19 => 10 | n => n⟩
theorem Tryz.zbS : Go.Proofs.Lays.n171 Tryz.prog Tryz.z6W := {
 mixed := by kernel_rfl
 f129 := Tryz.func216.trans (congrArg some (by kernel_rfl))
 f171 := Tryz.func48.trans (congrArg some (by kernel_rfl))
 f243 := Tryz.func106.trans (congrArg some (by kernel_rfl))
 f246 := Tryz.func147.trans (congrArg some (by kernel_rfl))
 f283 := Tryz.func184.trans (congrArg some (by kernel_rfl))
 f284 := Tryz.func185.trans (congrArg some (by kernel_rfl))
 f285 := Tryz.func186.trans (congrArg some (by kernel_rfl))
 f286 := Tryz.func187.trans (congrArg some (by kernel_rfl))
 f317 := Tryz.func215.trans (congrArg some (by kernel_rfl))
 f318 := Tryz.func217.trans (congrArg some (by kernel_rfl))
 f319 := Tryz.func218.trans (congrArg some (by kernel_rfl))
 f320 := Tryz.func219.trans (congrArg some (by kernel_rfl))
 f337 := Tryz.func236.trans (congrArg some (by kernel_rfl))
 f338 := Tryz.func237.trans (congrArg some (by kernel_rfl))
 t0 := Tryz.underlying0
 a0 := Tryz.isAgg0
 z0 := Tryz.sizeOf0
 v0 := Tryz.zeroValue0
 t2 := Tryz.underlying2
 a2 := Tryz.isAgg2
 z2 := Tryz.sizeOf2
 v2 := Tryz.zeroValue2
 t3 := Tryz.underlying3
 a3 := Tryz.isAgg3
 z3 := Tryz.sizeOf3
 v3 := Tryz.zeroValue3
 t4 := Tryz.underlying4
 a4 := Tryz.isAgg4
 z4 := Tryz.sizeOf4
 v4 := Tryz.zeroValue4
 t5 := Tryz.underlying5
 a5 := Tryz.isAgg5
 z5 := Tryz.sizeOf5
 v5 := Tryz.zeroValue5
 t9 := Tryz.underlying9
 a9 := Tryz.isAgg9
 z9 := Tryz.sizeOf9
 v9 := Tryz.zeroValue9
 t20 := Tryz.underlying20
 a20 := Tryz.isAgg20
 z20 := Tryz.sizeOf20
 v20 := Tryz.zeroValue20
 t37 := Tryz.underlying30
 a37 := Tryz.isAgg30
 z37 := Tryz.sizeOf30
 v37 := Tryz.zeroValue30
 t46 := Tryz.underlying148
 a46 := Tryz.isAgg148
 z46 := Tryz.sizeOf148
 v46 := Tryz.zeroValue148
 t51 := Tryz.underlying145
 a51 := Tryz.isAgg145
 z51 := Tryz.sizeOf145
 v51 := Tryz.zeroValue145
 t53 := Tryz.underlying146
 a53 := Tryz.isAgg146
 z53 := Tryz.sizeOf146
 v53 := Tryz.zeroValue146
 t171 := Tryz.underlying219
 a171 := Tryz.isAgg219
 z171 := Tryz.sizeOf219
 v171 := Tryz.zeroValue219
 t173 := Tryz.underlying221
 a173 := Tryz.isAgg221
 z173 := Tryz.sizeOf221
 v173 := Tryz.zeroValue221
 t212 := Tryz.underlying242
 a212 := Tryz.isAgg242
 z212 := Tryz.sizeOf242
 v212 := Tryz.zeroValue242
 t213 := Tryz.underlying243
 a213 := Tryz.isAgg243
 z213 := Tryz.sizeOf243
 t232 := Tryz.underlying275
 a232 := Tryz.isAgg275
 z232 := Tryz.sizeOf275
 v232 := Tryz.zeroValue275
 t233 := Tryz.underlying276
 a233 := Tryz.isAgg276
 z233 := Tryz.sizeOf276
 v233 := Tryz.zeroValue276
 g17 := by kernel_rfl
 g18 := by kernel_rfl
 g19 := by kernel_rfl }
open Go.RowKit Go.Sort Go.Lib in
theorem Tryz.strconv_Itoa_small (i : Nat) (hi : i < 100) (w : World) :
 Calls Tryz.prog 48 #[.int .i64 i] w fun e w' => e = .returned (.string ⟨(Lib.decDigits i).toArray⟩) ∧ w' = w := Any.strconv_Itoa_small Tryz.zbS i hi w
open Go.RowKit in
theorem Tryz.strings_Trim_set (s cutset : ByteArray) (w : World) (hs : s.size ≤ 9223372036854775807) (hcs : cutset.size < 4294967281) (hascii : ∀ (j : Nat) (b : UInt8), cutset.data.toList[j]? = some b → b.toNat < 128) :
 Calls Tryz.prog 135 #[.string s, .string cutset] w fun e w' => e = .returned (.string ⟨(Lib.trimS s.data.toList cutset.data.toList).toArray⟩) ∧ Below w.heap.size w w' := Any.strings_Trim_laid Tryz.zbP (by kernel_rfl) s cutset w hs hcs hascii
end Go.Proofs

