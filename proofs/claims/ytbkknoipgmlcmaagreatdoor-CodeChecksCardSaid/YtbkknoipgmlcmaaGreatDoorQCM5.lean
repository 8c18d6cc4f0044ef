import Derived.Test.YtbkknoipgmlcmaaGreatDoorProg
import Derived.Below
import Derived.Deep.Draws
import Derived.Deep.AppendLies
import Derived.Maps.AppendAt
import Derived.OwnWalk
import Derived.Laws.BytesArg
import Derived.Laws.MakeOwn
import Derived.Laws.OwnMore
import Derived.Deep.OwnRows
import Derived.Tactics
import Derived.Lib.ConvBytes
import Derived.Laws.Slices
import Derived.WalkKit
import Derived.KernelRfl
import Derived.RowKit3
import Derived.Deep.LoopGhost
import Derived.Deep.QuietTactic
import Derived.BigQuiet
import Derived.WideLaws
import Derived.Deep.DeepCutAuto
import Derived.Deep.CutBlock
import Derived.Deep.RegionHeld3
import Derived.Laws.Rows
import Derived.Lib.AppendStr
import Derived.ArgAppend
import Derived.Laws.IdiomCopy
import Derived.OrdersHeld
import Derived.Laws.BitsLemmas
import Derived.RowKit
import Derived.Laws.StructEq
import Derived.Test.YtbkknoipgmlcmaaGreatDoorQCM4
set_option linter.unusedVariables false
set_option linter.unusedSimpArgs false
set_option maxHeartbeats 8000000
set_option maxRecDepth 100000
namespace Go.Proofs.YtbkknoipgmlcmaaGreatDoor.P
open Go.RowKit Go.Proofs.YtbkknoipgmlcmaaGreatDoorW.PrintWords Go.Proofs.YtbkknoipgmlcmaaGreatDoorW.PrintLast Go.Proofs.YtbkknoipgmlcmaaGreatDoorW.PrintMore
open Go.Proofs.FX
attribute [local go_sem] cell_twice le_add_cast
attribute [local go_sem] max2_int min2_int max_two min_two max_three min_three max_four min_four
def errW : Option Int → Value
 | none => .nilIface
 | some c => .iface 0 (.int .i64 c)
theorem errW_none : errW none = .nilIface := rfl
theorem errW_some (c : Int) : errW (some c) = .iface 0 (.int .i64 c) := rfl
theorem info3 : (Tryz.prog.info? 3).map (fun i => (i.zero, i.size, i.bytes)) = some (some (.int .i64 0), 1, 8) := by kernel_rfl
theorem info5 : (Tryz.prog.info? 5).map (fun i => (i.zero, i.size, i.bytes)) = some (some (.int .u8 0), 1, 1) := by kernel_rfl
theorem info9 : (Tryz.prog.info? 9).map (fun i => (i.zero, i.size, i.bytes)) = some (some (.string ⟨#[]⟩), 1, 16) := by kernel_rfl
theorem info50 : (Tryz.prog.info? 50).map (fun i => (i.zero, i.size, i.bytes)) = some (some (.agg #[(.string ⟨#[]⟩), (.slice none 0 0), (.slice none 0 0), (.int .i64 0), (.slice none 0 0)]), 5, 96) := by kernel_rfl
theorem info63 : (Tryz.prog.info? 63).map (fun i => (i.zero, i.size, i.bytes)) = some (some (.agg #[(.int .i64 0), (.int .i64 0), (.int .i64 0), (.int .i64 0), (.int .i64 0), (.bool false), (.slice none 0 0), (.slice none 0 0)]), 8, 96) := by kernel_rfl
theorem info115 : (Tryz.prog.info? 115).map (fun i => (i.zero, i.size, i.bytes)) = some (some (.agg #[(.int .i64 0), (.slice none 0 0)]), 2, 32) := by kernel_rfl
theorem info145 : (Tryz.prog.info? 145).map (fun i => (i.zero, i.size, i.bytes)) = some (some (.int .u32 0), 1, 4) := by kernel_rfl
structure S115 where
 f0 : Int
 f1 : (List Int)
def z115 : S115 := ⟨(0 : Int), ([] : List Int)⟩
def k115 : Kd S115 := Kd.iso (Kd.pair (Kd.int .i64) (Kd.slice 3 (Kd.int .i64))) (fun x : S115 => (x.f0, x.f1))
theorem k115_heap : Kd.Heap k115 := Kd.heap_iso _ (Kd.heap_pair (Kd.heap_int .i64) (Kd.heap_slice 3 (Kd.heap_int .i64)))
theorem k115_open {w : World} {x : S115} {cs : List Value} (h : k115.K w x cs) : ∃ A1 c1, cs = [.int .i64 x.f0, .slice A1 x.f1.length c1] ∧ x.f1.length ≤ c1 ∧ (Kd.int .i64).C w A1 x.f1.length x.f1 := by
 obtain ⟨_, _, rfl, rfl, ⟨A1, c1, rfl, l1, g1⟩⟩ := h
 exact ⟨A1, c1, rfl, l1, g1⟩
theorem k115_mk (w : World) (x : S115) {A1 : Option Addr} {c1 : Nat} (l1 : x.f1.length ≤ c1) (g1 : (Kd.int .i64).C w A1 x.f1.length x.f1) : k115.K w x [.int .i64 x.f0, .slice A1 x.f1.length c1] := ⟨[.int .i64 x.f0], [.slice A1 x.f1.length c1], rfl, rfl, ⟨A1, c1, rfl, l1, g1⟩⟩
theorem k115_mkM (w : World) (base : Nat) (ok : Nat → Prop) (x : S115) {v1 : Value} (g1 : (Kd.int .i64).R 3 w base ok v1 x.f1) : k115.M w base ok x [.int .i64 x.f0, v1] := ⟨[.int .i64 x.f0], [v1], rfl, rfl, ⟨v1, rfl, g1⟩⟩
theorem k115_mkF (W : World) (ok : Nat → Prop) (x : S115) {A1 : Option Addr} {c1 : Nat} (l1 : x.f1.length ≤ c1) (g1 : Kd.F (Kd.int .i64) W ok A1 x.f1.length x.f1) : Kd.FK k115 W ok x [.int .i64 x.f0, .slice A1 x.f1.length c1] := fun W2 hW => k115_mk W2 x l1 (g1 W2 hW)
def rd_T115 (xs : List S115) (i : Int) : S115 := xs.getD i.toNat z115
theorem at_T115 {w : World} {A : Option Addr} {n : Nat} {xs : List S115} (h : Kd.C k115 w A n xs) (i : Int) (h0 : 0 ≤ i) (h1 : i < n) : ∃ ad A1 c1, A = some ad ∧ w.cell? (ad.add (i.toNat * 2)) = some (.int .i64 (rd_T115 xs i).f0) ∧ w.cell? ⟨(ad.add (i.toNat * 2)).block, (ad.add (i.toNat * 2)).off + 1, none⟩ = some (.slice A1 (rd_T115 xs i).f1.length c1) ∧ (rd_T115 xs i).f1.length ≤ c1 ∧ (Kd.int .i64).C w A1 (rd_T115 xs i).f1.length (rd_T115 xs i).f1 := by
 obtain ⟨ad, c, e, _, hK, hc0⟩ := Kd.C_get h z115 i h0 h1
 have hc : ∀ j u, c[j]? = some u → w.cell? (ad.add (i.toNat * 2 + j)) = some u := hc0
 obtain ⟨A1, c1, rfl, l1, g1⟩ := k115_open hK
 exact ⟨ad, A1, c1, e, hc 0 _ rfl, by rw [← add_field _ _ 1 (by omega)]; exact hc 1 _ rfl, l1, g1⟩
def rd_L7 (xs : List (List Int)) (i : Int) : (List Int) := xs.getD i.toNat ([] : List Int)
theorem at_L7 {w : World} {A : Option Addr} {n : Nat} {xs : List (List Int)} (h : Kd.C (Kd.slice 145 (Kd.int .u32)) w A n xs) (i : Int) (h0 : 0 ≤ i) (h1 : i < n) : ∃ ad A0 c0, A = some ad ∧ w.cell? (ad.add i.toNat) = some (.slice A0 (rd_L7 xs i).length c0) ∧ (rd_L7 xs i).length ≤ c0 ∧ (Kd.int .u32).C w A0 (rd_L7 xs i).length (rd_L7 xs i) := by
 obtain ⟨ad, c, e, _, hK, hc0⟩ := Kd.C_get h ([] : List Int) i h0 h1
 have hc : ∀ j u, c[j]? = some u → w.cell? (ad.add (i.toNat * 1 + j)) = some u := hc0
 obtain ⟨A0, c0, rfl, l0, g0⟩ := hK
 exact ⟨ad, A0, c0, e, by have hq := hc 0 _ rfl; rwa [Nat.mul_one, Nat.add_zero] at hq, l0, g0⟩
structure S61 where
 f0 : Int
 f1 : Bool
 f2 : (List Int)
 f3 : (List Int)
def z61 : S61 := ⟨(0 : Int), false, ([] : List Int), ([] : List Int)⟩
def k61 : Kd S61 := Kd.iso (Kd.pair (Kd.int .i64) (Kd.pair Kd.bool (Kd.pair (Kd.slice 145 (Kd.int .u32)) (Kd.slice 145 (Kd.int .u32))))) (fun x : S61 => (x.f0, x.f1, x.f2, x.f3))
theorem k61_open {w : World} {x : S61} {cs : List Value} (h : k61.K w x cs) : ∃ A2 c2 A3 c3, cs = [.int .i64 x.f0, .bool x.f1, .slice A2 x.f2.length c2, .slice A3 x.f3.length c3] ∧ x.f2.length ≤ c2 ∧ (Kd.int .u32).C w A2 x.f2.length x.f2 ∧ x.f3.length ≤ c3 ∧ (Kd.int .u32).C w A3 x.f3.length x.f3 := by
 obtain ⟨_, _, rfl, rfl, ⟨_, _, rfl, rfl, ⟨_, _, rfl, ⟨A2, c2, rfl, l2, g2⟩, ⟨A3, c3, rfl, l3, g3⟩⟩⟩⟩ := h
 exact ⟨A2, c2, A3, c3, rfl, l2, g2, l3, g3⟩
theorem k61_mk (w : World) (x : S61) {A2 : Option Addr} {c2 : Nat} (l2 : x.f2.length ≤ c2) (g2 : (Kd.int .u32).C w A2 x.f2.length x.f2) {A3 : Option Addr} {c3 : Nat} (l3 : x.f3.length ≤ c3) (g3 : (Kd.int .u32).C w A3 x.f3.length x.f3) : k61.K w x [.int .i64 x.f0, .bool x.f1, .slice A2 x.f2.length c2, .slice A3 x.f3.length c3] := ⟨[.int .i64 x.f0], [.bool x.f1, .slice A2 x.f2.length c2, .slice A3 x.f3.length c3], rfl, rfl, ⟨[.bool x.f1], [.slice A2 x.f2.length c2, .slice A3 x.f3.length c3], rfl, rfl, ⟨[.slice A2 x.f2.length c2], [.slice A3 x.f3.length c3], rfl, ⟨A2, c2, rfl, l2, g2⟩, ⟨A3, c3, rfl, l3, g3⟩⟩⟩⟩
theorem k61_mkM (w : World) (base : Nat) (ok : Nat → Prop) (x : S61) {v2 : Value} (g2 : (Kd.int .u32).R 145 w base ok v2 x.f2) {v3 : Value} (g3 : (Kd.int .u32).R 145 w base ok v3 x.f3) : k61.M w base ok x [.int .i64 x.f0, .bool x.f1, v2, v3] := ⟨[.int .i64 x.f0], [.bool x.f1, v2, v3], rfl, rfl, ⟨[.bool x.f1], [v2, v3], rfl, rfl, ⟨[v2], [v3], rfl, ⟨v2, rfl, g2⟩, ⟨v3, rfl, g3⟩⟩⟩⟩
structure S63 where
 f0 : Int
 f1 : Int
 f2 : Int
 f3 : Int
 f4 : S61
def z63 : S63 := ⟨(0 : Int), (0 : Int), (0 : Int), (0 : Int), z61⟩
def k63 : Kd S63 := Kd.iso (Kd.pair (Kd.int .i64) (Kd.pair (Kd.int .i64) (Kd.pair (Kd.int .i64) (Kd.pair (Kd.int .i64) k61)))) (fun x : S63 => (x.f0, x.f1, x.f2, x.f3, x.f4))
theorem k63_open {w : World} {x : S63} {cs : List Value} (h : k63.K w x cs) : ∃ A6 c6 A7 c7, cs = [.int .i64 x.f0, .int .i64 x.f1, .int .i64 x.f2, .int .i64 x.f3, .int .i64 x.f4.f0, .bool x.f4.f1, .slice A6 x.f4.f2.length c6, .slice A7 x.f4.f3.length c7] ∧ x.f4.f2.length ≤ c6 ∧ (Kd.int .u32).C w A6 x.f4.f2.length x.f4.f2 ∧ x.f4.f3.length ≤ c7 ∧ (Kd.int .u32).C w A7 x.f4.f3.length x.f4.f3 := by
 obtain ⟨_, _, rfl, rfl, ⟨_, _, rfl, rfl, ⟨_, _, rfl, rfl, ⟨_, _, rfl, rfl, s4⟩⟩⟩⟩ := h
 obtain ⟨A6, c6, A7, c7, rfl, l6, g6, l7, g7⟩ := k61_open s4
 exact ⟨A6, c6, A7, c7, rfl, l6, g6, l7, g7⟩
theorem k63_mk (w : World) (x : S63) {A6 : Option Addr} {c6 : Nat} (l6 : x.f4.f2.length ≤ c6) (g6 : (Kd.int .u32).C w A6 x.f4.f2.length x.f4.f2) {A7 : Option Addr} {c7 : Nat} (l7 : x.f4.f3.length ≤ c7) (g7 : (Kd.int .u32).C w A7 x.f4.f3.length x.f4.f3) : k63.K w x [.int .i64 x.f0, .int .i64 x.f1, .int .i64 x.f2, .int .i64 x.f3, .int .i64 x.f4.f0, .bool x.f4.f1, .slice A6 x.f4.f2.length c6, .slice A7 x.f4.f3.length c7] := ⟨[.int .i64 x.f0], [.int .i64 x.f1, .int .i64 x.f2, .int .i64 x.f3, .int .i64 x.f4.f0, .bool x.f4.f1, .slice A6 x.f4.f2.length c6, .slice A7 x.f4.f3.length c7], rfl, rfl, ⟨[.int .i64 x.f1], [.int .i64 x.f2, .int .i64 x.f3, .int .i64 x.f4.f0, .bool x.f4.f1, .slice A6 x.f4.f2.length c6, .slice A7 x.f4.f3.length c7], rfl, rfl, ⟨[.int .i64 x.f2], [.int .i64 x.f3, .int .i64 x.f4.f0, .bool x.f4.f1, .slice A6 x.f4.f2.length c6, .slice A7 x.f4.f3.length c7], rfl, rfl, ⟨[.int .i64 x.f3], [.int .i64 x.f4.f0, .bool x.f4.f1, .slice A6 x.f4.f2.length c6, .slice A7 x.f4.f3.length c7], rfl, rfl, (k61_mk w x.f4 l6 g6 l7 g7)⟩⟩⟩⟩
theorem k63_mkM (w : World) (base : Nat) (ok : Nat → Prop) (x : S63) {v6 : Value} (g6 : (Kd.int .u32).R 145 w base ok v6 x.f4.f2) {v7 : Value} (g7 : (Kd.int .u32).R 145 w base ok v7 x.f4.f3) : k63.M w base ok x [.int .i64 x.f0, .int .i64 x.f1, .int .i64 x.f2, .int .i64 x.f3, .int .i64 x.f4.f0, .bool x.f4.f1, v6, v7] := ⟨[.int .i64 x.f0], [.int .i64 x.f1, .int .i64 x.f2, .int .i64 x.f3, .int .i64 x.f4.f0, .bool x.f4.f1, v6, v7], rfl, rfl, ⟨[.int .i64 x.f1], [.int .i64 x.f2, .int .i64 x.f3, .int .i64 x.f4.f0, .bool x.f4.f1, v6, v7], rfl, rfl, ⟨[.int .i64 x.f2], [.int .i64 x.f3, .int .i64 x.f4.f0, .bool x.f4.f1, v6, v7], rfl, rfl, ⟨[.int .i64 x.f3], [.int .i64 x.f4.f0, .bool x.f4.f1, v6, v7], rfl, rfl, (k61_mkM w base ok x.f4 g6 g7)⟩⟩⟩⟩
theorem k63_mkF (W : World) (ok : Nat → Prop) (x : S63) {A6 : Option Addr} {c6 : Nat} (l6 : x.f4.f2.length ≤ c6) (g6 : Kd.F (Kd.int .u32) W ok A6 x.f4.f2.length x.f4.f2) {A7 : Option Addr} {c7 : Nat} (l7 : x.f4.f3.length ≤ c7) (g7 : Kd.F (Kd.int .u32) W ok A7 x.f4.f3.length x.f4.f3) : Kd.FK k63 W ok x [.int .i64 x.f0, .int .i64 x.f1, .int .i64 x.f2, .int .i64 x.f3, .int .i64 x.f4.f0, .bool x.f4.f1, .slice A6 x.f4.f2.length c6, .slice A7 x.f4.f3.length c7] := fun W2 hW => k63_mk W2 x l6 (g6 W2 hW) l7 (g7 W2 hW)
def rd_T63 (xs : List S63) (i : Int) : S63 := xs.getD i.toNat z63
theorem at_T63 {w : World} {A : Option Addr} {n : Nat} {xs : List S63} (h : Kd.C k63 w A n xs) (i : Int) (h0 : 0 ≤ i) (h1 : i < n) : ∃ ad A6 c6 A7 c7, A = some ad ∧ w.cell? (ad.add (i.toNat * 8)) = some (.int .i64 (rd_T63 xs i).f0) ∧ w.cell? ⟨(ad.add (i.toNat * 8)).block, (ad.add (i.toNat * 8)).off + 1, none⟩ = some (.int .i64 (rd_T63 xs i).f1) ∧ w.cell? ⟨(ad.add (i.toNat * 8)).block, (ad.add (i.toNat * 8)).off + 2, none⟩ = some (.int .i64 (rd_T63 xs i).f2) ∧ w.cell? ⟨(ad.add (i.toNat * 8)).block, (ad.add (i.toNat * 8)).off + 3, none⟩ = some (.int .i64 (rd_T63 xs i).f3) ∧ w.cell? ⟨(ad.add (i.toNat * 8)).block, (ad.add (i.toNat * 8)).off + 4, none⟩ = some (.int .i64 (rd_T63 xs i).f4.f0) ∧ w.cell? ⟨(ad.add (i.toNat * 8)).block, (ad.add (i.toNat * 8)).off + 5, none⟩ = some (.bool (rd_T63 xs i).f4.f1) ∧ w.cell? ⟨(ad.add (i.toNat * 8)).block, (ad.add (i.toNat * 8)).off + 6, none⟩ = some (.slice A6 (rd_T63 xs i).f4.f2.length c6) ∧ w.cell? ⟨(ad.add (i.toNat * 8)).block, (ad.add (i.toNat * 8)).off + 7, none⟩ = some (.slice A7 (rd_T63 xs i).f4.f3.length c7) ∧ (rd_T63 xs i).f4.f2.length ≤ c6 ∧ (Kd.int .u32).C w A6 (rd_T63 xs i).f4.f2.length (rd_T63 xs i).f4.f2 ∧ (rd_T63 xs i).f4.f3.length ≤ c7 ∧ (Kd.int .u32).C w A7 (rd_T63 xs i).f4.f3.length (rd_T63 xs i).f4.f3 := by
 obtain ⟨ad, c, e, _, hK, hc0⟩ := Kd.C_get h z63 i h0 h1
 have hc : ∀ j u, c[j]? = some u → w.cell? (ad.add (i.toNat * 8 + j)) = some u := hc0
 obtain ⟨A6, c6, A7, c7, rfl, l6, g6, l7, g7⟩ := k63_open hK
 exact ⟨ad, A6, c6, A7, c7, e, hc 0 _ rfl, by rw [← add_field _ _ 1 (by omega)]; exact hc 1 _ rfl, by rw [← add_field _ _ 2 (by omega)]; exact hc 2 _ rfl, by rw [← add_field _ _ 3 (by omega)]; exact hc 3 _ rfl, by rw [← add_field _ _ 4 (by omega)]; exact hc 4 _ rfl, by rw [← add_field _ _ 5 (by omega)]; exact hc 5 _ rfl, by rw [← add_field _ _ 6 (by omega)]; exact hc 6 _ rfl, by rw [← add_field _ _ 7 (by omega)]; exact hc 7 _ rfl, l6, g6, l7, g7⟩
structure S50 where
 f0 : ByteArray
 f1 : (List S115)
 f2 : (List S115)
 f3 : Int
 f4 : (List S63)
def z50 : S50 := ⟨(⟨#[]⟩ : ByteArray), ([] : List S115), ([] : List S115), (0 : Int), ([] : List S63)⟩
def k50 : Kd S50 := Kd.iso (Kd.pair Kd.string (Kd.pair (Kd.slice 115 k115) (Kd.pair (Kd.slice 115 k115) (Kd.pair (Kd.int .i64) (Kd.slice 63 k63))))) (fun x : S50 => (x.f0, x.f1, x.f2, x.f3, x.f4))
theorem k50_open {w : World} {x : S50} {cs : List Value} (h : k50.K w x cs) : ∃ A1 c1 A2 c2 A4 c4, cs = [.string x.f0, .slice A1 x.f1.length c1, .slice A2 x.f2.length c2, .int .i64 x.f3, .slice A4 x.f4.length c4] ∧ x.f1.length ≤ c1 ∧ k115.C w A1 x.f1.length x.f1 ∧ x.f2.length ≤ c2 ∧ k115.C w A2 x.f2.length x.f2 ∧ x.f4.length ≤ c4 ∧ k63.C w A4 x.f4.length x.f4 := by
 obtain ⟨_, _, rfl, rfl, ⟨_, _, rfl, ⟨A1, c1, rfl, l1, g1⟩, ⟨_, _, rfl, ⟨A2, c2, rfl, l2, g2⟩, ⟨_, _, rfl, rfl, ⟨A4, c4, rfl, l4, g4⟩⟩⟩⟩⟩ := h
 exact ⟨A1, c1, A2, c2, A4, c4, rfl, l1, g1, l2, g2, l4, g4⟩
theorem k50_mk (w : World) (x : S50) {A1 : Option Addr} {c1 : Nat} (l1 : x.f1.length ≤ c1) (g1 : k115.C w A1 x.f1.length x.f1) {A2 : Option Addr} {c2 : Nat} (l2 : x.f2.length ≤ c2) (g2 : k115.C w A2 x.f2.length x.f2) {A4 : Option Addr} {c4 : Nat} (l4 : x.f4.length ≤ c4) (g4 : k63.C w A4 x.f4.length x.f4) : k50.K w x [.string x.f0, .slice A1 x.f1.length c1, .slice A2 x.f2.length c2, .int .i64 x.f3, .slice A4 x.f4.length c4] := ⟨[.string x.f0], [.slice A1 x.f1.length c1, .slice A2 x.f2.length c2, .int .i64 x.f3, .slice A4 x.f4.length c4], rfl, rfl, ⟨[.slice A1 x.f1.length c1], [.slice A2 x.f2.length c2, .int .i64 x.f3, .slice A4 x.f4.length c4], rfl, ⟨A1, c1, rfl, l1, g1⟩, ⟨[.slice A2 x.f2.length c2], [.int .i64 x.f3, .slice A4 x.f4.length c4], rfl, ⟨A2, c2, rfl, l2, g2⟩, ⟨[.int .i64 x.f3], [.slice A4 x.f4.length c4], rfl, rfl, ⟨A4, c4, rfl, l4, g4⟩⟩⟩⟩⟩
theorem k50_mkM (w : World) (base : Nat) (ok : Nat → Prop) (x : S50) {v1 : Value} (g1 : k115.R 115 w base ok v1 x.f1) {v2 : Value} (g2 : k115.R 115 w base ok v2 x.f2) {v4 : Value} (g4 : k63.R 63 w base ok v4 x.f4) : k50.M w base ok x [.string x.f0, v1, v2, .int .i64 x.f3, v4] := ⟨[.string x.f0], [v1, v2, .int .i64 x.f3, v4], rfl, rfl, ⟨[v1], [v2, .int .i64 x.f3, v4], rfl, ⟨v1, rfl, g1⟩, ⟨[v2], [.int .i64 x.f3, v4], rfl, ⟨v2, rfl, g2⟩, ⟨[.int .i64 x.f3], [v4], rfl, rfl, ⟨v4, rfl, g4⟩⟩⟩⟩⟩
theorem k50_mkF (W : World) (ok : Nat → Prop) (x : S50) {A1 : Option Addr} {c1 : Nat} (l1 : x.f1.length ≤ c1) (g1 : Kd.F k115 W ok A1 x.f1.length x.f1) {A2 : Option Addr} {c2 : Nat} (l2 : x.f2.length ≤ c2) (g2 : Kd.F k115 W ok A2 x.f2.length x.f2) {A4 : Option Addr} {c4 : Nat} (l4 : x.f4.length ≤ c4) (g4 : Kd.F k63 W ok A4 x.f4.length x.f4) : Kd.FK k50 W ok x [.string x.f0, .slice A1 x.f1.length c1, .slice A2 x.f2.length c2, .int .i64 x.f3, .slice A4 x.f4.length c4] := fun W2 hW => k50_mk W2 x l1 (g1 W2 hW) l2 (g2 W2 hW) l4 (g4 W2 hW)
def rd_T50 (xs : List S50) (i : Int) : S50 := xs.getD i.toNat z50
theorem at_T50 {w : World} {A : Option Addr} {n : Nat} {xs : List S50} (h : Kd.C k50 w A n xs) (i : Int) (h0 : 0 ≤ i) (h1 : i < n) : ∃ ad A1 c1 A2 c2 A4 c4, A = some ad ∧ w.cell? (ad.add (i.toNat * 5)) = some (.string (rd_T50 xs i).f0) ∧ w.cell? ⟨(ad.add (i.toNat * 5)).block, (ad.add (i.toNat * 5)).off + 1, none⟩ = some (.slice A1 (rd_T50 xs i).f1.length c1) ∧ w.cell? ⟨(ad.add (i.toNat * 5)).block, (ad.add (i.toNat * 5)).off + 2, none⟩ = some (.slice A2 (rd_T50 xs i).f2.length c2) ∧ w.cell? ⟨(ad.add (i.toNat * 5)).block, (ad.add (i.toNat * 5)).off + 3, none⟩ = some (.int .i64 (rd_T50 xs i).f3) ∧ w.cell? ⟨(ad.add (i.toNat * 5)).block, (ad.add (i.toNat * 5)).off + 4, none⟩ = some (.slice A4 (rd_T50 xs i).f4.length c4) ∧ (rd_T50 xs i).f1.length ≤ c1 ∧ k115.C w A1 (rd_T50 xs i).f1.length (rd_T50 xs i).f1 ∧ (rd_T50 xs i).f2.length ≤ c2 ∧ k115.C w A2 (rd_T50 xs i).f2.length (rd_T50 xs i).f2 ∧ (rd_T50 xs i).f4.length ≤ c4 ∧ k63.C w A4 (rd_T50 xs i).f4.length (rd_T50 xs i).f4 := by
 obtain ⟨ad, c, e, _, hK, hc0⟩ := Kd.C_get h z50 i h0 h1
 have hc : ∀ j u, c[j]? = some u → w.cell? (ad.add (i.toNat * 5 + j)) = some u := hc0
 obtain ⟨A1, c1, A2, c2, A4, c4, rfl, l1, g1, l2, g2, l4, g4⟩ := k50_open hK
 exact ⟨ad, A1, c1, A2, c2, A4, c4, e, hc 0 _ rfl, by rw [← add_field _ _ 1 (by omega)]; exact hc 1 _ rfl, by rw [← add_field _ _ 2 (by omega)]; exact hc 2 _ rfl, by rw [← add_field _ _ 3 (by omega)]; exact hc 3 _ rfl, by rw [← add_field _ _ 4 (by omega)]; exact hc 4 _ rfl, l1, g1, l2, g2, l4, g4⟩
structure S97 where
 f0 : ByteArray
 f1 : Int
 f2 : Int
 f3 : Int
 f4 : Bool
def z97 : S97 := ⟨(⟨#[]⟩ : ByteArray), (0 : Int), (0 : Int), (0 : Int), false⟩
def k97 : Kd S97 := Kd.iso (Kd.pair Kd.string (Kd.pair (Kd.int .i64) (Kd.pair (Kd.int .i64) (Kd.pair (Kd.int .i64) Kd.bool)))) (fun x : S97 => (x.f0, x.f1, x.f2, x.f3, x.f4))
theorem k97_open {w : World} {x : S97} {cs : List Value} (h : k97.K w x cs) : cs = [.string x.f0, .int .i64 x.f1, .int .i64 x.f2, .int .i64 x.f3, .bool x.f4] := by
 obtain ⟨_, _, rfl, rfl, ⟨_, _, rfl, rfl, ⟨_, _, rfl, rfl, ⟨_, _, rfl, rfl, rfl⟩⟩⟩⟩ := h
 exact rfl
theorem k97_mkM (w : World) (base : Nat) (ok : Nat → Prop) (x : S97)  : k97.M w base ok x [.string x.f0, .int .i64 x.f1, .int .i64 x.f2, .int .i64 x.f3, .bool x.f4] := ⟨[.string x.f0], [.int .i64 x.f1, .int .i64 x.f2, .int .i64 x.f3, .bool x.f4], rfl, rfl, ⟨[.int .i64 x.f1], [.int .i64 x.f2, .int .i64 x.f3, .bool x.f4], rfl, rfl, ⟨[.int .i64 x.f2], [.int .i64 x.f3, .bool x.f4], rfl, rfl, ⟨[.int .i64 x.f3], [.bool x.f4], rfl, rfl, rfl⟩⟩⟩⟩
def rd_T97 (xs : List S97) (i : Int) : S97 := xs.getD i.toNat z97
theorem at_T97 {w : World} {A : Option Addr} {n : Nat} {xs : List S97} (h : Kd.C k97 w A n xs) (i : Int) (h0 : 0 ≤ i) (h1 : i < n) : ∃ ad , A = some ad ∧ w.cell? (ad.add (i.toNat * 5)) = some (.string (rd_T97 xs i).f0) ∧ w.cell? ⟨(ad.add (i.toNat * 5)).block, (ad.add (i.toNat * 5)).off + 1, none⟩ = some (.int .i64 (rd_T97 xs i).f1) ∧ w.cell? ⟨(ad.add (i.toNat * 5)).block, (ad.add (i.toNat * 5)).off + 2, none⟩ = some (.int .i64 (rd_T97 xs i).f2) ∧ w.cell? ⟨(ad.add (i.toNat * 5)).block, (ad.add (i.toNat * 5)).off + 3, none⟩ = some (.int .i64 (rd_T97 xs i).f3) ∧ w.cell? ⟨(ad.add (i.toNat * 5)).block, (ad.add (i.toNat * 5)).off + 4, none⟩ = some (.bool (rd_T97 xs i).f4) := by
 obtain ⟨ad, c, e, _, hK, hc0⟩ := Kd.C_get h z97 i h0 h1
 have hc : ∀ j u, c[j]? = some u → w.cell? (ad.add (i.toNat * 5 + j)) = some u := hc0
 obtain rfl := k97_open hK
 exact ⟨ad, e, hc 0 _ rfl, by rw [← add_field _ _ 1 (by omega)]; exact hc 1 _ rfl, by rw [← add_field _ _ 2 (by omega)]; exact hc 2 _ rfl, by rw [← add_field _ _ 3 (by omega)]; exact hc 3 _ rfl, by rw [← add_field _ _ 4 (by omega)]; exact hc 4 _ rfl⟩
def fluxionref08_CutType.f (a0_0 : Int) (l0_1 : List Int) : Option (Int × List Int) := (some (([] : List Int) : List Int)).bind fun y103 => (if 0 ≤ (mn (l0_1.length : Int) 5) then (if (mn (l0_1.length : Int) 5) ≤ (l0_1.length : Int) then (if y103.length + (l0_1.take ((mn (l0_1.length : Int) 5) : Int).toNat).length < 17592186044416 then (some (a0_0, (y103 ++ (l0_1.take ((mn (l0_1.length : Int) 5) : Int).toNat)))) else (none)) else (none)) else (none))
def fluxionref08_CutType.T1 : Bool × List (List Nat × List Nat) := (true, [([], []), ([0], [0]), ([], []), ([], []), ([3], [3]), ([], []), ([5], [5]), ([6], [6]), ([7], [7]), ([4, 8], [4, 8]), ([2, 9], [2, 9]), ([1, 10], [1, 10]), ([11, 10, 0, 1, 2, 3, 4, 5, 6, 7, 8, 9, 10, 11], [11])])
def fluxionref08_CutType.B1 : List Nat := [0, 1, 0, 0, 8, 0, 32, 96, 224, 504, 1020, 2047, 4095]
theorem fluxionref08_CutType.tab1 : rtab .any (opsOf Tryz.f134 1) = fluxionref08_CutType.T1 := by kernel_rfl
theorem fluxionref08_CutType.bits1 : waitsOk fluxionref08_CutType.T1.2 fluxionref08_CutType.B1 = true := by kernel_rfl
theorem fluxionref08_CutType.calls (a0_0 : Int) (A0_1 : Option Addr) (c0_1 : Nat) (l0_1 : List Int) (r1 : Int) (r2 : List Int) (w : World) (hr0_1 : Kd.C (Kd.int .i64) w A0_1 l0_1.length l0_1) (hc0_1 : l0_1.length ≤ c0_1) (h : fluxionref08_CutType.f a0_0 l0_1 = some (r1, r2)) :
 Calls Tryz.prog 134 #[.agg #[.int .i64 a0_0, .slice A0_1 l0_1.length c0_1]] w fun e w' => ∃ v1_ : Value, e = .returned (.agg #[.int .i64 r1, v1_]) ∧ Kd.R (Kd.int .i64) 3 w' w.heap.size (fun _ => True) v1_ r2 ∧ Below w.heap.size w w' := by
 have hu115 := Tryz.underlying115
 have HR0_1 := aS hr0_1
 have HC0_1 := aS hc0_1
 clear hr0_1 hc0_1
 have HB := aS (Below.refl w.heap.size w)
 have H := h
 unfold fluxionref08_CutType.f at H
 clear h
 obtain ⟨y103, hy103⟩ : ∃ y_ : List Int, y_ = (([] : List Int)) := ⟨_, rfl⟩
 first | replace H := bsB H hy103 | rw [← hy103] at H
 have Ny103 := aS hy103
 clear hy103
 obtain ⟨ji2, hji2⟩ : ∃ j_ : Int, (mn (l0_1.length : Int) 5) = j_ := ⟨_, rfl⟩
 simp only [hji2] at H
 (try (have hji2h : ji2 ≤ 5 := by (rw [← hji2]; unfold mn; (repeat' split) <;> omega)))
 (try (have hji2g : ji2 ≤ 64 := by omega))
 (try (have hji2l : 0 ≤ ji2 := by (rw [← hji2]; unfold mn; (repeat' split) <;> omega)))
 (try (have hji2m : 0 ≤ ji2 := by omega))
 have hji2_ : (if 5 < (l0_1.length : Int) then 5 else (l0_1.length : Int)) = ji2 := hji2
 by_cases c3 : 0 ≤ (ji2); rotate_left
 ·rw [if_neg c3] at H
  cases H
 rw [if_pos c3] at H
 have c3b0 := eq_true c3
 have c3b1 := dT c3
 clear c3
 by_cases c4 : (ji2) ≤ (l0_1.length : Int); rotate_left
 ·rw [if_neg c4] at H
  cases H
 rw [if_pos c4] at H
 have c4b0 := eq_true c4
 have c4b1 := dT c4
 clear c4
 by_cases c5 : y103.length + (l0_1.take ((ji2) : Int).toNat).length < 17592186044416; rotate_left
 ·rw [if_neg c5] at H
  cases H
 rw [if_pos c5] at H
 have LMc5 := aS c5
 clear c5
 obtain ⟨y107, hy107⟩ : ∃ y_ : List Int, y_ = (y103 ++ (l0_1.take ((ji2) : Int).toNat)) := ⟨_, rfl⟩
 first | replace H := bsB H hy107 | rw [← hy107] at H
 have Ny107 := aS hy107
 clear hy107
 simp only [Option.some.injEq, Prod.mk.injEq] at H
 obtain ⟨rfl, rfl⟩ := H
 go_enter Tryz.func134, Tryz.ntmps134
 try go_wp2_with (first | ((with_reducible refine gate_dst (N := 1) rfl ?_); refine bx (N := 1) (cs := #[.int .i64 a0_0, .slice A0_1 l0_1.length c0_1]) (t := 115) ?_; intro gb101 hg w6 hbox hb; have BK101 := aS (hbox); have GW101 := (gz hg HB : Aside0 (w.heap.size ≤ gb101)); have GE101 := (gz hg HB : Aside0 (w.heap.size ≤ gb101)); replace HB := aS (bs_ (bl HB) hb); clear hb hbox hg) | ((with_reducible refine gate_dst (N := 2) rfl ?_); refine bx (N := 2) (cs := #[.int .i64 0, .slice none 0 0]) (t := 115) ?_; intro gb102 hg w7 hbox hb; have n0_ := aS (blk_below (bj BK101) hb); have n1_ := aS (bs_ (bl HB) hb); have n2_ := aS (hbox); have n3_ := (gz hg HB : Aside0 (w.heap.size ≤ gb102)); have n4_ := (gz hg HB : Aside0 (w.heap.size ≤ gb102)); have n5_ := aS ((by rw [hg]; exact Nat.ne_of_lt (blk_lt (bj BK101)) : gb101 ≠ gb102)); have n6_ := aS ((by rw [hg]; exact Nat.ne_of_gt (blk_lt (bj BK101)) : gb102 ≠ gb101)); clear BK101; clear HB; have BK101 := n0_; have HB := n1_; have BK102 := n2_; have GW102 := n3_; have GE102 := n4_; have NB101_102 := n5_; have NB102_101 := n6_; clear n0_ n1_ n2_ n3_ n4_ n5_ n6_; clear hb hbox hg))
 replace BK101 := aS (blk_drew BK101.out)
 replace BK102 := aS (blk_drew BK102.out)
 replace HB := aS (below_drew1 HB.out)
 obtain ⟨i09, hi09, _, hsz9, _⟩ := info_parts info3
 obtain ⟨hcut9, hA9, hC9⟩ := print_take_of (P := Tryz.prog) (Value.int .i64) 0 42 3 .i64 Tryz.underlying42 hi09 hsz9 A0_1 c0_1 l0_1 (ji2) (oa) (oa) HC0_1.out
 have HR106 := aS (Kd.C_of_reads (h1 := fun _ => rfl) (hA9 _ (Kd.reads_of_C HR0_1.out)))
 have HC106 := aS hC9
 clear hA9 hC9 hi09 hsz9
 refine start_ (n := 13) (S := fun w' => w'.cell? ⟨gb101, 0, none⟩ = some (.int .i64 a0_0) ∧ w'.cell? ⟨gb101, 1, none⟩ = some (.slice A0_1 l0_1.length c0_1)) (ds := []) (mk 13 0) (by kernel_rfl) rfl (by kernel_rfl) ⟨(blk_cell BK101.out 0).trans rfl, (blk_cell BK101.out 1).trans rfl⟩ (fun hHeld => ?_); refine with_tabW fluxionref08_CutType.tab1 fluxionref08_CutType.bits1 (fun HT_ HW_ => ?_)
 generalize w7.drew = w8 at BK101 BK102 HB HR106 hHeld ⊢
 refine pu 0 3 (mk 13 1) (any_of HT_.out (by kernel_rfl)) ?_
 refine pu 3 6 (mk 13 9) (any_of HT_.out (by kernel_rfl)) ?_
 refine pu 5 8 (mk 13 41) (any_of HT_.out (by kernel_rfl)) ?_
 refine tk 1 4 (mk 13 43) (take_ofW HT_.out HW_.out (by kernel_rfl)) hHeld ?_
 refine tk 4 7 (mk 13 59) (take_ofW HT_.out HW_.out (by kernel_rfl)) hHeld ?_
 refine tk 6 9 (mk 13 123) (take_ofW HT_.out HW_.out (by kernel_rfl)) hHeld ?_
 refine pu 7 10 (mk 13 251) (any_of HT_.out (by kernel_rfl)) ?_
 refine pu 8 11 (mk 13 507) (any_of HT_.out (by kernel_rfl)) ?_
 refine pu 9 12 (mk 13 1019) (any_of HT_.out (by kernel_rfl)) ?_
 refine one_ (i := 2) (N := some 5) (mk 13 1023) rfl rfl (one_of HT_.out (by kernel_rfl)) (by decide) (fun K hK => ?_)
 refine Kd.R_lit_step (Kd.int .i64) _ 3 ?hg (N := 5) ?hd (xs := ([] : List Int)) (inner := []) (ok := fun _ => True) (okp := fun _ => True) ?hr ?hp (fun _ hk => hk) trivial (Below.refl _ _) (Nat.le_refl _) (by simp) ?_; (case hd => rfl); (case hg => rfl); (case hr => first | (go_simp; done) | (go_simp; rfl)); (case hp => exact (Reps.none _ _))
 intro v104 w10 ho11 hb hg_ hnew_
 clear hg_ hnew_
 (first | rw [← Ny103.out] at ho11 | (simp only [Int.reduceToNat] at ho11; rw [← Ny103.out] at ho11))
 have HO105 := aS (Kd.R_lower ho11 (below_size (bl HB)))
 replace BK101 := aS (blk_below (bj BK101) hb)
 replace BK102 := aS (blk_below (bj BK102) hb)
 replace HB := aS (bs_ (bl HB) hb)
 clear hb ho11
 refine hK.out _ _ ⟨(blk_cell BK101.out 0).trans rfl, (blk_cell BK101.out 1).trans rfl⟩ (fun hHeld => ?_)
 clear hK K
 refine norm_ (a' := ?_) ?_ ?_
 rotate_left
 ·show Act.put _ (some 5) _ = _
  simp only [Act.put, List.setIfInBounds_toArray, List.set_cons_zero, List.set_cons_succ, i64_w, i32_w]
  rfl
 refine one_ (i := 10) (N := some 13) (mk 13 2047) rfl rfl (one_of HT_.out (by kernel_rfl)) (by decide) (fun K hK => ?_)
 refine Kd.R_append_rows_step (Kd.int .i64) (w0 := w) w.heap.size (by rfl) (.tmp 5) (.tmp 12) 42 3 (.int .i64 0) 8 rfl Tryz.underlying42 info3 rfl (by decide) (by omega) v104 y103 (l0_1.take ((ji2) : Int).toNat) _ _ _ (fun _ => True) (fun _ => False) rfl rfl ?aO ?aR (fun _ _ h => h) (fun _ h => h.elim) ?aF ?aB ?aS ?aL ?_
 (case aR => first | (have hr_ := HR106.out; rw [show (l0_1.take ((ji2) : Int).toNat).length = (ji2).toNat from (by rw [List.length_take]; have h_ : ((ji2) : Int) ≤ (l0_1.length : Int) := oa; omega)] at hr_; repeat (first | exact (Kd.C_below hr_ HB.out) | (with_reducible refine Kd.C_alloc ?_ _) | (with_reducible refine Kd.C_drewN ?_ _) | (with_reducible refine Kd.C_drew ?_)); done) | (repeat (first | exact (Kd.C_below HR106.out HB.out) | (with_reducible refine Kd.C_alloc ?_ _) | (with_reducible refine Kd.C_drewN ?_ _) | (with_reducible refine Kd.C_drew ?_))))
 (case aB => exact (bl HB))
 (case aF => exact (fun _ _ => trivial))
 (case aO => exact (by exact rA HO105.out))
 (case aS => exact (below_size (bl HB)))
 (case aL => have := LMc5.out; have hlx_ := (show (l0_1.take ((ji2) : Int).toNat).length = (ji2).toNat from (by rw [List.length_take]; have h_ : ((ji2) : Int) ≤ (l0_1.length : Int) := oa; omega)); omega)
 intro v108 w12 ho hb hg hat
 rw [← Ny107.out] at ho
 replace BK101 := aS (blk_grown (bj BK101) hg (Kd.R_ne HO105.out BK101.out (by decide)))
 replace BK102 := aS (blk_grown (bj BK102) hg (Kd.R_ne HO105.out BK102.out (by decide)))
 replace HB := aS (hb)
 have HO109 := aS (ho)
 clear HO105
 clear ho hb hg hat
 obtain ⟨Ao13, co13, eo13⟩ := Kd.R_slice HO109.out
 (first | subst eo13 | (injection eo13 with f1_ f2_ f3_; have f4_ := f1_.symm; have f5_ := f3_.symm; clear f1_ f2_ f3_; subst f4_; subst f5_))
 refine hK.out _ _ ⟨(blk_cell BK101.out 0).trans rfl, (blk_cell BK101.out 1).trans rfl⟩ (fun hHeld => ?_)
 clear hK K
 refine norm_ (a' := ?_) ?_ ?_
 rotate_left
 ·show Act.put _ (some 13) _ = _
  simp only [Act.put, List.setIfInBounds_toArray, List.set_cons_zero, List.set_cons_succ, i64_w, i32_w]
  rfl
 refine pu 11 14 (mk 13 4095) (any_of HT_.out (by kernel_rfl)) ?_
 refine one_ (i := 12) (N := none) (mk 13 8191) rfl rfl (one_of HT_.out (by kernel_rfl)) (by decide) (fun K hK => ?_)
 have hs14 : w12.cell? ⟨gb102, 0, none⟩ = some (.int .i64 0) := (blk_cell BK102.out 0).trans rfl
 have hfs14 := blk_frozen BK102.out 0
 have hns14_0 := NB101_102.out
 have hms14_0 := NB102_101.out
 have hs15 : w12.cell? ⟨gb102, 1, none⟩ = some (.slice none 0 0) := (blk_cell BK102.out 1).trans rfl
 have hfs15 := blk_frozen BK102.out 1
 have hns15_0 := NB101_102.out
 have hms15_0 := NB102_101.out
 refine skip_ (w1 := ?_) (by rfl) rfl ?_ ?_
 rotate_left
 ·go_simp
  rfl
 refine hK.out _ _ ⟨((cell_far (p := ⟨gb102, _, none⟩) NB101_102.out _).trans (((cell_far (p := ⟨gb102, _, none⟩) NB101_102.out _).trans (hHeld.1)))), ((cell_far (p := ⟨gb102, _, none⟩) NB101_102.out _).trans (((cell_far (p := ⟨gb102, _, none⟩) NB101_102.out _).trans (hHeld.2))))⟩ (fun hHeld => ?_)
 clear hK K
 refine done_ (done_of HT_.out (by kernel_rfl)) ?_
 try go_wp2
 refine bodyPost_ret (results_cell_row rfl _ _ gb102 115 #[.int .i64 a0_0, .slice Ao13 y107.length co13] (0, 0) _ rfl (bp BK102) Tryz.underlying115 rfl (by kernel_rfl)) rfl ?_
 exact ⟨_, by first | rfl | (simp [errW_none, errW_some] <;> rfl) | (simp only [← hji2]; first | rfl | (simp [errW_none, errW_some] <;> rfl)) | (simp [*, errW_none, errW_some] <;> rfl), by exact Kd.R_mono (rF (Kd.R_types HO109.out BK102.out (by decide))) (fun _ hk => trivial), bl HB⟩
def fluxionref08_CutTypes.l0 : Nat → List (S115) → List (S115) → Int → Option ((List (S115)))
 | 0, _, _, _ => none
 | k + 1, x0, x3, x4 => if x4 < (x0.length : Int) then (if x4 < 66 then (if 0 ≤ x4 then ((fluxionref08_CutType.f ((rd_T115 x0 x4).f0) ((rd_T115 x0 x4).f1)).bind fun bt111 => (if x3.length < 4398046511104 then (fluxionref08_CutTypes.l0 k x0 (x3 ++ [(⟨bt111.1, bt111.2⟩ : S115)]) (wrap64 (x4 + 1))) else (none))) else (none)) else (some x3)) else (some x3)
def fluxionref08_CutTypes.f (k : Nat) (l0 : List (S115)) : Option ((List (S115))) := fluxionref08_CutTypes.l0 k l0 ([] : List (S115)) 0
theorem fluxionref08_CutTypes.calls (k : Nat) (A0 : Option Addr) (c0 : Nat) (l0 : List (S115)) (r : List (S115)) (w : World) (hr0 : Kd.C k115 w A0 l0.length l0) (hc0 : l0.length ≤ c0) (h : fluxionref08_CutTypes.f k l0 = some r) :
 Calls Tryz.prog 84 #[.slice A0 l0.length c0] w fun e w' => ∃ v0_ : Value, e = .returned (v0_) ∧ Kd.S k115 115 w' w.heap.size (fun _ => True) v0_ r ∧ Below w.heap.size w w' := by
 have hu115 := Tryz.underlying115
 have HR0 := aS hr0
 have HC0 := aS hc0
 clear hr0 hc0
 have HB := aS (Below.refl w.heap.size w)
 have H := h
 unfold fluxionref08_CutTypes.f at H
 clear h
 have H' := aS H
 clear H
 go_enter Tryz.func84, Tryz.ntmps84
 go_wp2
 go_loopg [3, 4] k (fun kq v3 v4 w' => ∃ (x3_1 : List (S115)) (x4_1 : Int), v4 = .int .i64 x4_1 ∧ Aside0 (fluxionref08_CutTypes.l0 kq l0 x3_1 x4_1 = some r) ∧ Aside0 (kq ≤ k) ∧ Aside0 (Kd.S k115 115 w' w.heap.size (fun _ => True) v3 x3_1) ∧ Aside0 (Below w.heap.size w w'))
 case atStart => exact ⟨(([] : List (S115))), (0), rs, H', ⟨Nat.le_refl _⟩, ⟨by first | exact Kd.S_nil _ _ _ _ _ | exact Kd.N_nil _ _ _ _ _ | exact Kd.V_nil _ _ _ _ _ | exact Kd.Q_nil _ _ _ _ _ | exact Kd.R_nil _ _ _ _ _⟩, ⟨bl HB⟩⟩
 case round =>
  clear H'
  obtain ⟨x3_1, x4_1, rfl, HA, HK1, HO_3, HB⟩ := hrel
  cases gk with
  | zero => exact absurd HA.out (by simp [fluxionref08_CutTypes.l0])
  | succ k1 =>
   have H := HA.out
   clear HA
   simp only [fluxionref08_CutTypes.l0] at H
   by_cases c2 : x4_1 < (l0.length : Int); rotate_left
   ·rw [if_neg c2] at H
    have c2b0 := dF c2
    clear c2
    obtain rfl := sI H
    go_wp2
    go_ret
    exact ⟨_, re, by exact sA HO_3.out, bl HB⟩
   rw [if_pos c2] at H
   have c2b0 := dT c2
   clear c2
   by_cases c3 : x4_1 < 66; rotate_left
   ·rw [if_neg c3] at H
    have c3b0 := dF c3
    clear c3
    obtain rfl := sI H
    go_wp2
    go_ret
    exact ⟨_, re, by exact sA HO_3.out, bl HB⟩
   rw [if_pos c3] at H
   have c3b0 := dT c3
   clear c3
   by_cases c4 : 0 ≤ x4_1; rotate_left
   ·rw [if_neg c4] at H
    cases H
   rw [if_pos c4] at H
   have c4b0 := dT c4
   clear c4
   replace H := bS H
   obtain ⟨⟨t111, t112⟩, A50, H⟩ := H
   (try dsimp only at H)
   have A5 := aS A50
   clear A50
   by_cases c6 : x3_1.length < 4398046511104; rotate_left
   ·rw [if_neg c6] at H
    cases H
   rw [if_pos c6] at H
   have LMc6 := aS c6
   clear c6
   obtain ⟨y115, hy115⟩ : ∃ y_ : List (S115), y_ = (x3_1 ++ [(⟨t111, t112⟩ : S115)]) := ⟨_, rfl⟩
   first | replace H := bsB H hy115 | rw [← hy115] at H
   have Ny115 := aS hy115
   clear hy115
   have H' := aS H
   clear H
   have p110 : 0 ≤ (x4_1 : Int) := oa
   have q110 : x4_1 < (l0.length : Int) := oa
   obtain ⟨ad110, A110_1, c110_1, e110, hx110_0, hx110_1, hl110_1, hi110_1⟩ := at_T115 HR0.out x4_1 p110 q110
   cases e110
   replace hx110_0 := xb HB hx110_0
   replace hx110_1 := xb HB hx110_1
   have HR110_1 := aS hi110_1
   have HC110_1 := aS hl110_1
   clear hi110_1 hl110_1
   replace p110 := eq_true p110
   replace q110 := eq_true q110
   go_wp2_with (first | ((with_reducible refine gate_callee (f := 134) rfl ?_); refine gl 20 Tryz.func134 #[.agg #[.int .i64 ((rd_T115 l0 x4_1).f0), .slice A110_1 ((rd_T115 l0 x4_1).f1).length c110_1]] ?_; (with_reducible refine (fluxionref08_CutType.calls ((rd_T115 l0 x4_1).f0) _ _ ((rd_T115 l0 x4_1).f1) t111 t112 _ ?side1 ?side2 A5.out).mono ?_); (case side1 => exact cb HR110_1 HB); (case side2 => exact HC110_1.out); rintro e w7 ⟨v113, rfl, ho0, hb⟩; refine ⟨_, rfl, ?_⟩; replace HO_3 := aS (Kd.S_elder' (by exact sA HO_3.out) (Kd.R_base ho0) hb); have HO114 := aS (Kd.R_lower ho0 (below_size (bl HB))); replace HB := aS (bs_ (bl HB) hb); clear hb ho0; obtain ⟨Ao9, co9, eo9⟩ := Kd.R_slice HO114.out; subst eo9) | ((with_reducible refine gate_builtin (b := .append) (xs := #[.tmp 15, .tmp 21]) rfl ?_); at_builtin; refine Kd.S_append k115 (w0 := w) w.heap.size rfl (.tmp 15) (.tmp 21) 47 115 (.agg #[(.int .i64 0), (.slice none 0 0)]) 32 rfl Tryz.underlying47 info115 rfl (by decide) (by omega) u3 x3_1 (⟨t111, t112⟩ : S115) [.int .i64 t111, .slice Ao9 t112.length co9] (fun _ => True) (fun k_ => some k_ = (.slice Ao9 t112.length co9 : Value).ownBlock) rfl rfl ?aP (fun k_ hk_ => ((Kd.R_mono (ok' := fun k_ => ((fun _ => True)) k_ ∧ some k_ ≠ (u3 : Value).ownBlock) (Kd.R_apart' (HO114.out) (Kd.S_typed HO_3.out) (by decide)) (fun k_ hk => ⟨trivial, hk.2⟩))).1 k_ hk_.symm) ?aF ?aO ?aB ?aS ?aL ?_; (case aP => exact k115_mkM _ _ _ (⟨t111, t112⟩ : S115) (Kd.R_mono (Kd.R_tight rfl (Kd.R_mono (ok' := fun k_ => ((fun _ => True)) k_ ∧ some k_ ≠ (u3 : Value).ownBlock) (Kd.R_apart' (HO114.out) (Kd.S_typed HO_3.out) (by decide)) (fun k_ hk => ⟨trivial, hk.2⟩))) (fun _ h_ => h_))); (case aB => exact (bl HB)); (case aF => exact (fun _ _ => trivial)); (case aO => exact (by exact sA (Kd.S_mono HO_3.out (fun k_ hk => ⟨trivial, fun e_ => hk.2 e_⟩)))); (case aS => exact (below_size (bl HB))); (case aL => have := LMc6.out; omega); intro v116 w8 ho hb hg hat; rw [← Ny115.out] at ho; replace HB := aS (hb); have HO117 := aS (ho); clear HO_3 HO114; clear ho hb hg hat))
   go_roundg k1
   case measure => have := HK1.out; omega
   case rel => exact ⟨(y115), (wrap64 (x4_1 + 1)), rs, H', ⟨by have := HK1.out; omega⟩, ⟨by exact sA HO117.out⟩, ⟨bl HB⟩⟩
end Go.Proofs.YtbkknoipgmlcmaaGreatDoor.P

