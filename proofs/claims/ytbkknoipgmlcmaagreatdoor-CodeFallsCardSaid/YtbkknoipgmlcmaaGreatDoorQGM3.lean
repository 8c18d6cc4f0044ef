import Derived.Test.YtbkknoipgmlcmaaGreatDoorProg
import Derived.Laws.StructEq
import Derived.Test.YtbkknoipgmlcmaaGreatDoorQGM2
set_option linter.all false
set_option maxHeartbeats 8000000
set_option maxRecDepth 100000
namespace Go.Proofs.QP
open Go.RowKit Go.Proofs.PW Go.Proofs.PL Go.Proofs.PM Go.Proofs.FX
section
section
attribute [local go_sem] yd zV
attribute [local go_sem] xf xg xD xE yI yJ xl xm
def zdy : Option Int → Value
 | none => .nilIface
 | some c => .iface 0 (.int .i64 c)
theorem yY : zdy none = .nilIface := rfl
theorem yZ (c : Int) : zdy (some c) = .iface 0 (.int .i64 c) := rfl
theorem z3z : (Tryz.prog.info? 3).map (fun i => (i.zero, i.size, i.bytes)) = some (some (.int .i64 0), 1, 8) := by kernel_rfl
theorem z8z : (Tryz.prog.info? 5).map (fun i => (i.zero, i.size, i.bytes)) = some (some (.int .u8 0), 1, 1) := by kernel_rfl
theorem zdB : (Tryz.prog.info? 9).map (fun i => (i.zero, i.size, i.bytes)) = some (some (.string ⟨#[]⟩), 1, 16) := by kernel_rfl
theorem z7J : (Tryz.prog.info? 50).map (fun i => (i.zero, i.size, i.bytes)) = some (some (.agg #[(.string ⟨#[]⟩), (.slice none 0 0), (.slice none 0 0), (.int .i64 0), (.slice none 0 0)]), 5, 96) := by kernel_rfl
theorem z7K : (Tryz.prog.info? 63).map (fun i => (i.zero, i.size, i.bytes)) = some (some (.agg #[(.int .i64 0), (.int .i64 0), (.int .i64 0), (.int .i64 0), (.int .i64 0), (.bool false), (.slice none 0 0), (.slice none 0 0)]), 8, 96) := by kernel_rfl
theorem z2d : (Tryz.prog.info? 115).map (fun i => (i.zero, i.size, i.bytes)) = some (some (.agg #[(.int .i64 0), (.slice none 0 0)]), 2, 32) := by kernel_rfl
theorem xR : (Tryz.prog.info? 145).map (fun i => (i.zero, i.size, i.bytes)) = some (some (.int .u32 0), 1, 4) := by kernel_rfl
structure xx where
 f0 : Int
 f1 : (List Int)
def ze2 : xx := ⟨(0 : Int), ([] : List Int)⟩
def xC : Kd xx := Kd.iso (Kd.pair (Kd.int .i64) (Kd.slice 3 (Kd.int .i64))) (fun x : xx => (x.f0, x.f1))
theorem z2R : Kd.Heap xC := Kd.zak _ (Kd.z9a (Kd.yw .i64) (Kd.z7E 3 (Kd.yw .i64)))
theorem z9d {w : World} {x : xx} {cs : List Value} (h : xC.K w x cs) : ∃ A1 c1, cs = [.int .i64 x.f0, .slice A1 x.f1.length c1] ∧ x.f1.length ≤ c1 ∧ (Kd.int .i64).C w A1 x.f1.length x.f1 := by
 obtain ⟨_, _, rfl, rfl, ⟨A1, c1, rfl, l1, g1⟩⟩ := h
 exact ⟨A1, c1, rfl, l1, g1⟩
theorem z8B (w : World) (x : xx) {A1 : Option Addr} {c1 : Nat} (l1 : x.f1.length ≤ c1) (g1 : (Kd.int .i64).C w A1 x.f1.length x.f1) : xC.K w x [.int .i64 x.f0, .slice A1 x.f1.length c1] := ⟨[.int .i64 x.f0], [.slice A1 x.f1.length c1], rfl, rfl, ⟨A1, c1, rfl, l1, g1⟩⟩
theorem z6S (w : World) (base : Nat) (ok : Nat → Prop) (x : xx) {v1 : Value} (g1 : (Kd.int .i64).R 3 w base ok v1 x.f1) : xC.M w base ok x [.int .i64 x.f0, v1] := ⟨[.int .i64 x.f0], [v1], rfl, rfl, ⟨v1, rfl, g1⟩⟩
theorem zap (W : World) (ok : Nat → Prop) (x : xx) {A1 : Option Addr} {c1 : Nat} (l1 : x.f1.length ≤ c1) (g1 : Kd.F (Kd.int .i64) W ok A1 x.f1.length x.f1) : Kd.FK xC W ok x [.int .i64 x.f0, .slice A1 x.f1.length c1] := fun W2 hW => z8B W2 x l1 (g1 W2 hW)
def yg (xs : List xx) (i : Int) : xx := xs.getD i.toNat ze2
theorem z2b {w : World} {A : Option Addr} {n : Nat} {xs : List xx} (h : Kd.C xC w A n xs) (i : Int) (h0 : 0 ≤ i) (h1 : i < n) : ∃ ad A1 c1, A = some ad ∧ w.cell? (ad.add (i.toNat * 2)) = some (.int .i64 (yg xs i).f0) ∧ w.cell? ⟨(ad.add (i.toNat * 2)).block, (ad.add (i.toNat * 2)).off + 1, none⟩ = some (.slice A1 (yg xs i).f1.length c1) ∧ (yg xs i).f1.length ≤ c1 ∧ (Kd.int .i64).C w A1 (yg xs i).f1.length (yg xs i).f1 := by
 obtain ⟨ad, c, e, _, hK, hc0⟩ := Kd.z3V h ze2 i h0 h1
 have hc : ∀ j u, c[j]? = some u → w.cell? (ad.add (i.toNat * 2 + j)) = some u := hc0
 obtain ⟨A1, c1, rfl, l1, g1⟩ := z9d hK
 exact ⟨ad, A1, c1, e, hc 0 _ rfl, by rw [← yH _ _ 1 (by omega)]; exact hc 1 _ rfl, l1, g1⟩
def z0y (xs : List (List Int)) (i : Int) : (List Int) := xs.getD i.toNat ([] : List Int)
theorem z8j {w : World} {A : Option Addr} {n : Nat} {xs : List (List Int)} (h : Kd.C (Kd.slice 145 (Kd.int .u32)) w A n xs) (i : Int) (h0 : 0 ≤ i) (h1 : i < n) : ∃ ad A0 c0, A = some ad ∧ w.cell? (ad.add i.toNat) = some (.slice A0 (z0y xs i).length c0) ∧ (z0y xs i).length ≤ c0 ∧ (Kd.int .u32).C w A0 (z0y xs i).length (z0y xs i) := by
 obtain ⟨ad, c, e, _, hK, hc0⟩ := Kd.z3V h ([] : List Int) i h0 h1
 have hc : ∀ j u, c[j]? = some u → w.cell? (ad.add (i.toNat * 1 + j)) = some u := hc0
 obtain ⟨A0, c0, rfl, l0, g0⟩ := hK
 exact ⟨ad, A0, c0, e, by have hq := hc 0 _ rfl; rwa [Nat.mul_one, Nat.add_zero] at hq, l0, g0⟩
structure S61 where
 f0 : Int
 f1 : Bool
 f2 : (List Int)
 f3 : (List Int)
def z61 : S61 := ⟨(0 : Int), false, ([] : List Int), ([] : List Int)⟩
def k61 : Kd S61 := Kd.iso (Kd.pair (Kd.int .i64) (Kd.pair Kd.bool (Kd.pair (Kd.slice 145 (Kd.int .u32)) (Kd.slice 145 (Kd.int .u32))))) (fun x : S61 => (x.f0, x.f1, x.f2, x.f3))
theorem zas {w : World} {x : S61} {cs : List Value} (h : k61.K w x cs) : ∃ A2 c2 A3 c3, cs = [.int .i64 x.f0, .bool x.f1, .slice A2 x.f2.length c2, .slice A3 x.f3.length c3] ∧ x.f2.length ≤ c2 ∧ (Kd.int .u32).C w A2 x.f2.length x.f2 ∧ x.f3.length ≤ c3 ∧ (Kd.int .u32).C w A3 x.f3.length x.f3 := by
 obtain ⟨_, _, rfl, rfl, ⟨_, _, rfl, rfl, ⟨_, _, rfl, ⟨A2, c2, rfl, l2, g2⟩, ⟨A3, c3, rfl, l3, g3⟩⟩⟩⟩ := h
 exact ⟨A2, c2, A3, c3, rfl, l2, g2, l3, g3⟩
theorem zcU (w : World) (x : S61) {A2 : Option Addr} {c2 : Nat} (l2 : x.f2.length ≤ c2) (g2 : (Kd.int .u32).C w A2 x.f2.length x.f2) {A3 : Option Addr} {c3 : Nat} (l3 : x.f3.length ≤ c3) (g3 : (Kd.int .u32).C w A3 x.f3.length x.f3) : k61.K w x [.int .i64 x.f0, .bool x.f1, .slice A2 x.f2.length c2, .slice A3 x.f3.length c3] := ⟨[.int .i64 x.f0], [.bool x.f1, .slice A2 x.f2.length c2, .slice A3 x.f3.length c3], rfl, rfl, ⟨[.bool x.f1], [.slice A2 x.f2.length c2, .slice A3 x.f3.length c3], rfl, rfl, ⟨[.slice A2 x.f2.length c2], [.slice A3 x.f3.length c3], rfl, ⟨A2, c2, rfl, l2, g2⟩, ⟨A3, c3, rfl, l3, g3⟩⟩⟩⟩
theorem zbN (w : World) (base : Nat) (ok : Nat → Prop) (x : S61) {v2 : Value} (g2 : (Kd.int .u32).R 145 w base ok v2 x.f2) {v3 : Value} (g3 : (Kd.int .u32).R 145 w base ok v3 x.f3) : k61.M w base ok x [.int .i64 x.f0, .bool x.f1, v2, v3] := ⟨[.int .i64 x.f0], [.bool x.f1, v2, v3], rfl, rfl, ⟨[.bool x.f1], [v2, v3], rfl, rfl, ⟨[v2], [v3], rfl, ⟨v2, rfl, g2⟩, ⟨v3, rfl, g3⟩⟩⟩⟩
structure S63 where
 f0 : Int
 f1 : Int
 f2 : Int
 f3 : Int
 f4 : S61
def z63 : S63 := ⟨(0 : Int), (0 : Int), (0 : Int), (0 : Int), z61⟩
def k63 : Kd S63 := Kd.iso (Kd.pair (Kd.int .i64) (Kd.pair (Kd.int .i64) (Kd.pair (Kd.int .i64) (Kd.pair (Kd.int .i64) k61)))) (fun x : S63 => (x.f0, x.f1, x.f2, x.f3, x.f4))
theorem zau {w : World} {x : S63} {cs : List Value} (h : k63.K w x cs) : ∃ A6 c6 A7 c7, cs = [.int .i64 x.f0, .int .i64 x.f1, .int .i64 x.f2, .int .i64 x.f3, .int .i64 x.f4.f0, .bool x.f4.f1, .slice A6 x.f4.f2.length c6, .slice A7 x.f4.f3.length c7] ∧ x.f4.f2.length ≤ c6 ∧ (Kd.int .u32).C w A6 x.f4.f2.length x.f4.f2 ∧ x.f4.f3.length ≤ c7 ∧ (Kd.int .u32).C w A7 x.f4.f3.length x.f4.f3 := by
 obtain ⟨_, _, rfl, rfl, ⟨_, _, rfl, rfl, ⟨_, _, rfl, rfl, ⟨_, _, rfl, rfl, s4⟩⟩⟩⟩ := h
 obtain ⟨A6, c6, A7, c7, rfl, l6, g6, l7, g7⟩ := zas s4
 exact ⟨A6, c6, A7, c7, rfl, l6, g6, l7, g7⟩
theorem zat (w : World) (x : S63) {A6 : Option Addr} {c6 : Nat} (l6 : x.f4.f2.length ≤ c6) (g6 : (Kd.int .u32).C w A6 x.f4.f2.length x.f4.f2) {A7 : Option Addr} {c7 : Nat} (l7 : x.f4.f3.length ≤ c7) (g7 : (Kd.int .u32).C w A7 x.f4.f3.length x.f4.f3) : k63.K w x [.int .i64 x.f0, .int .i64 x.f1, .int .i64 x.f2, .int .i64 x.f3, .int .i64 x.f4.f0, .bool x.f4.f1, .slice A6 x.f4.f2.length c6, .slice A7 x.f4.f3.length c7] := ⟨[.int .i64 x.f0], [.int .i64 x.f1, .int .i64 x.f2, .int .i64 x.f3, .int .i64 x.f4.f0, .bool x.f4.f1, .slice A6 x.f4.f2.length c6, .slice A7 x.f4.f3.length c7], rfl, rfl, ⟨[.int .i64 x.f1], [.int .i64 x.f2, .int .i64 x.f3, .int .i64 x.f4.f0, .bool x.f4.f1, .slice A6 x.f4.f2.length c6, .slice A7 x.f4.f3.length c7], rfl, rfl, ⟨[.int .i64 x.f2], [.int .i64 x.f3, .int .i64 x.f4.f0, .bool x.f4.f1, .slice A6 x.f4.f2.length c6, .slice A7 x.f4.f3.length c7], rfl, rfl, ⟨[.int .i64 x.f3], [.int .i64 x.f4.f0, .bool x.f4.f1, .slice A6 x.f4.f2.length c6, .slice A7 x.f4.f3.length c7], rfl, rfl, (zcU w x.f4 l6 g6 l7 g7)⟩⟩⟩⟩
theorem z6o (w : World) (base : Nat) (ok : Nat → Prop) (x : S63) {v6 : Value} (g6 : (Kd.int .u32).R 145 w base ok v6 x.f4.f2) {v7 : Value} (g7 : (Kd.int .u32).R 145 w base ok v7 x.f4.f3) : k63.M w base ok x [.int .i64 x.f0, .int .i64 x.f1, .int .i64 x.f2, .int .i64 x.f3, .int .i64 x.f4.f0, .bool x.f4.f1, v6, v7] := ⟨[.int .i64 x.f0], [.int .i64 x.f1, .int .i64 x.f2, .int .i64 x.f3, .int .i64 x.f4.f0, .bool x.f4.f1, v6, v7], rfl, rfl, ⟨[.int .i64 x.f1], [.int .i64 x.f2, .int .i64 x.f3, .int .i64 x.f4.f0, .bool x.f4.f1, v6, v7], rfl, rfl, ⟨[.int .i64 x.f2], [.int .i64 x.f3, .int .i64 x.f4.f0, .bool x.f4.f1, v6, v7], rfl, rfl, ⟨[.int .i64 x.f3], [.int .i64 x.f4.f0, .bool x.f4.f1, v6, v7], rfl, rfl, (zbN w base ok x.f4 g6 g7)⟩⟩⟩⟩
theorem z8C (W : World) (ok : Nat → Prop) (x : S63) {A6 : Option Addr} {c6 : Nat} (l6 : x.f4.f2.length ≤ c6) (g6 : Kd.F (Kd.int .u32) W ok A6 x.f4.f2.length x.f4.f2) {A7 : Option Addr} {c7 : Nat} (l7 : x.f4.f3.length ≤ c7) (g7 : Kd.F (Kd.int .u32) W ok A7 x.f4.f3.length x.f4.f3) : Kd.FK k63 W ok x [.int .i64 x.f0, .int .i64 x.f1, .int .i64 x.f2, .int .i64 x.f3, .int .i64 x.f4.f0, .bool x.f4.f1, .slice A6 x.f4.f2.length c6, .slice A7 x.f4.f3.length c7] := fun W2 hW => zat W2 x l6 (g6 W2 hW) l7 (g7 W2 hW)
def zb (xs : List S63) (i : Int) : S63 := xs.getD i.toNat z63
theorem z0j {w : World} {A : Option Addr} {n : Nat} {xs : List S63} (h : Kd.C k63 w A n xs) (i : Int) (h0 : 0 ≤ i) (h1 : i < n) : ∃ ad A6 c6 A7 c7, A = some ad ∧ w.cell? (ad.add (i.toNat * 8)) = some (.int .i64 (zb xs i).f0) ∧ w.cell? ⟨(ad.add (i.toNat * 8)).block, (ad.add (i.toNat * 8)).off + 1, none⟩ = some (.int .i64 (zb xs i).f1) ∧ w.cell? ⟨(ad.add (i.toNat * 8)).block, (ad.add (i.toNat * 8)).off + 2, none⟩ = some (.int .i64 (zb xs i).f2) ∧ w.cell? ⟨(ad.add (i.toNat * 8)).block, (ad.add (i.toNat * 8)).off + 3, none⟩ = some (.int .i64 (zb xs i).f3) ∧ w.cell? ⟨(ad.add (i.toNat * 8)).block, (ad.add (i.toNat * 8)).off + 4, none⟩ = some (.int .i64 (zb xs i).f4.f0) ∧ w.cell? ⟨(ad.add (i.toNat * 8)).block, (ad.add (i.toNat * 8)).off + 5, none⟩ = some (.bool (zb xs i).f4.f1) ∧ w.cell? ⟨(ad.add (i.toNat * 8)).block, (ad.add (i.toNat * 8)).off + 6, none⟩ = some (.slice A6 (zb xs i).f4.f2.length c6) ∧ w.cell? ⟨(ad.add (i.toNat * 8)).block, (ad.add (i.toNat * 8)).off + 7, none⟩ = some (.slice A7 (zb xs i).f4.f3.length c7) ∧ (zb xs i).f4.f2.length ≤ c6 ∧ (Kd.int .u32).C w A6 (zb xs i).f4.f2.length (zb xs i).f4.f2 ∧ (zb xs i).f4.f3.length ≤ c7 ∧ (Kd.int .u32).C w A7 (zb xs i).f4.f3.length (zb xs i).f4.f3 := by
 obtain ⟨ad, c, e, _, hK, hc0⟩ := Kd.z3V h z63 i h0 h1
 have hc : ∀ j u, c[j]? = some u → w.cell? (ad.add (i.toNat * 8 + j)) = some u := hc0
 obtain ⟨A6, c6, A7, c7, rfl, l6, g6, l7, g7⟩ := zau hK
 exact ⟨ad, A6, c6, A7, c7, e, hc 0 _ rfl, by rw [← yH _ _ 1 (by omega)]; exact hc 1 _ rfl, by rw [← yH _ _ 2 (by omega)]; exact hc 2 _ rfl, by rw [← yH _ _ 3 (by omega)]; exact hc 3 _ rfl, by rw [← yH _ _ 4 (by omega)]; exact hc 4 _ rfl, by rw [← yH _ _ 5 (by omega)]; exact hc 5 _ rfl, by rw [← yH _ _ 6 (by omega)]; exact hc 6 _ rfl, by rw [← yH _ _ 7 (by omega)]; exact hc 7 _ rfl, l6, g6, l7, g7⟩
structure S50 where
 f0 : ByteArray
 f1 : (List xx)
 f2 : (List xx)
 f3 : Int
 f4 : (List S63)
def z50 : S50 := ⟨(⟨#[]⟩ : ByteArray), ([] : List xx), ([] : List xx), (0 : Int), ([] : List S63)⟩
def k50 : Kd S50 := Kd.iso (Kd.pair Kd.string (Kd.pair (Kd.slice 115 xC) (Kd.pair (Kd.slice 115 xC) (Kd.pair (Kd.int .i64) (Kd.slice 63 k63))))) (fun x : S50 => (x.f0, x.f1, x.f2, x.f3, x.f4))
theorem zar {w : World} {x : S50} {cs : List Value} (h : k50.K w x cs) : ∃ A1 c1 A2 c2 A4 c4, cs = [.string x.f0, .slice A1 x.f1.length c1, .slice A2 x.f2.length c2, .int .i64 x.f3, .slice A4 x.f4.length c4] ∧ x.f1.length ≤ c1 ∧ xC.C w A1 x.f1.length x.f1 ∧ x.f2.length ≤ c2 ∧ xC.C w A2 x.f2.length x.f2 ∧ x.f4.length ≤ c4 ∧ k63.C w A4 x.f4.length x.f4 := by
 obtain ⟨_, _, rfl, rfl, ⟨_, _, rfl, ⟨A1, c1, rfl, l1, g1⟩, ⟨_, _, rfl, ⟨A2, c2, rfl, l2, g2⟩, ⟨_, _, rfl, rfl, ⟨A4, c4, rfl, l4, g4⟩⟩⟩⟩⟩ := h
 exact ⟨A1, c1, A2, c2, A4, c4, rfl, l1, g1, l2, g2, l4, g4⟩
theorem z5E {w : World} {base : Nat} {ok : Nat → Prop} {x : S50} {cs : List Value} (h : k50.M w base ok x cs) : ∃ v1 v2 v4, cs = [.string x.f0, v1, v2, .int .i64 x.f3, v4] ∧ xC.R 115 w base ok v1 x.f1 ∧ xC.R 115 w base ok v2 x.f2 ∧ k63.R 63 w base ok v4 x.f4 := by
 obtain ⟨_, _, rfl, rfl, ⟨_, _, rfl, ⟨v1, rfl, g1⟩, ⟨_, _, rfl, ⟨v2, rfl, g2⟩, ⟨_, _, rfl, rfl, ⟨v4, rfl, g4⟩⟩⟩⟩⟩ := h
 exact ⟨v1, v2, v4, rfl, g1, g2, g4⟩
theorem zaq (w : World) (x : S50) {A1 : Option Addr} {c1 : Nat} (l1 : x.f1.length ≤ c1) (g1 : xC.C w A1 x.f1.length x.f1) {A2 : Option Addr} {c2 : Nat} (l2 : x.f2.length ≤ c2) (g2 : xC.C w A2 x.f2.length x.f2) {A4 : Option Addr} {c4 : Nat} (l4 : x.f4.length ≤ c4) (g4 : k63.C w A4 x.f4.length x.f4) : k50.K w x [.string x.f0, .slice A1 x.f1.length c1, .slice A2 x.f2.length c2, .int .i64 x.f3, .slice A4 x.f4.length c4] := ⟨[.string x.f0], [.slice A1 x.f1.length c1, .slice A2 x.f2.length c2, .int .i64 x.f3, .slice A4 x.f4.length c4], rfl, rfl, ⟨[.slice A1 x.f1.length c1], [.slice A2 x.f2.length c2, .int .i64 x.f3, .slice A4 x.f4.length c4], rfl, ⟨A1, c1, rfl, l1, g1⟩, ⟨[.slice A2 x.f2.length c2], [.int .i64 x.f3, .slice A4 x.f4.length c4], rfl, ⟨A2, c2, rfl, l2, g2⟩, ⟨[.int .i64 x.f3], [.slice A4 x.f4.length c4], rfl, rfl, ⟨A4, c4, rfl, l4, g4⟩⟩⟩⟩⟩
theorem z6n (w : World) (base : Nat) (ok : Nat → Prop) (x : S50) {v1 : Value} (g1 : xC.R 115 w base ok v1 x.f1) {v2 : Value} (g2 : xC.R 115 w base ok v2 x.f2) {v4 : Value} (g4 : k63.R 63 w base ok v4 x.f4) : k50.M w base ok x [.string x.f0, v1, v2, .int .i64 x.f3, v4] := ⟨[.string x.f0], [v1, v2, .int .i64 x.f3, v4], rfl, rfl, ⟨[v1], [v2, .int .i64 x.f3, v4], rfl, ⟨v1, rfl, g1⟩, ⟨[v2], [.int .i64 x.f3, v4], rfl, ⟨v2, rfl, g2⟩, ⟨[.int .i64 x.f3], [v4], rfl, rfl, ⟨v4, rfl, g4⟩⟩⟩⟩⟩
theorem zbM (W : World) (ok : Nat → Prop) (x : S50) {A1 : Option Addr} {c1 : Nat} (l1 : x.f1.length ≤ c1) (g1 : Kd.F xC W ok A1 x.f1.length x.f1) {A2 : Option Addr} {c2 : Nat} (l2 : x.f2.length ≤ c2) (g2 : Kd.F xC W ok A2 x.f2.length x.f2) {A4 : Option Addr} {c4 : Nat} (l4 : x.f4.length ≤ c4) (g4 : Kd.F k63 W ok A4 x.f4.length x.f4) : Kd.FK k50 W ok x [.string x.f0, .slice A1 x.f1.length c1, .slice A2 x.f2.length c2, .int .i64 x.f3, .slice A4 x.f4.length c4] := fun W2 hW => zaq W2 x l1 (g1 W2 hW) l2 (g2 W2 hW) l4 (g4 W2 hW)
def z8 (xs : List S50) (i : Int) : S50 := xs.getD i.toNat z50
theorem xW {w : World} {A : Option Addr} {n : Nat} {xs : List S50} (h : Kd.C k50 w A n xs) (i : Int) (h0 : 0 ≤ i) (h1 : i < n) : ∃ ad A1 c1 A2 c2 A4 c4, A = some ad ∧ w.cell? (ad.add (i.toNat * 5)) = some (.string (z8 xs i).f0) ∧ w.cell? ⟨(ad.add (i.toNat * 5)).block, (ad.add (i.toNat * 5)).off + 1, none⟩ = some (.slice A1 (z8 xs i).f1.length c1) ∧ w.cell? ⟨(ad.add (i.toNat * 5)).block, (ad.add (i.toNat * 5)).off + 2, none⟩ = some (.slice A2 (z8 xs i).f2.length c2) ∧ w.cell? ⟨(ad.add (i.toNat * 5)).block, (ad.add (i.toNat * 5)).off + 3, none⟩ = some (.int .i64 (z8 xs i).f3) ∧ w.cell? ⟨(ad.add (i.toNat * 5)).block, (ad.add (i.toNat * 5)).off + 4, none⟩ = some (.slice A4 (z8 xs i).f4.length c4) ∧ (z8 xs i).f1.length ≤ c1 ∧ xC.C w A1 (z8 xs i).f1.length (z8 xs i).f1 ∧ (z8 xs i).f2.length ≤ c2 ∧ xC.C w A2 (z8 xs i).f2.length (z8 xs i).f2 ∧ (z8 xs i).f4.length ≤ c4 ∧ k63.C w A4 (z8 xs i).f4.length (z8 xs i).f4 := by
 obtain ⟨ad, c, e, _, hK, hc0⟩ := Kd.z3V h z50 i h0 h1
 have hc : ∀ j u, c[j]? = some u → w.cell? (ad.add (i.toNat * 5 + j)) = some u := hc0
 obtain ⟨A1, c1, A2, c2, A4, c4, rfl, l1, g1, l2, g2, l4, g4⟩ := zar hK
 exact ⟨ad, A1, c1, A2, c2, A4, c4, e, hc 0 _ rfl, by rw [← yH _ _ 1 (by omega)]; exact hc 1 _ rfl, by rw [← yH _ _ 2 (by omega)]; exact hc 2 _ rfl, by rw [← yH _ _ 3 (by omega)]; exact hc 3 _ rfl, by rw [← yH _ _ 4 (by omega)]; exact hc 4 _ rfl, l1, g1, l2, g2, l4, g4⟩
structure S97 where
 f0 : ByteArray
 f1 : Int
 f2 : Int
 f3 : Int
 f4 : Bool
def z97 : S97 := ⟨(⟨#[]⟩ : ByteArray), (0 : Int), (0 : Int), (0 : Int), false⟩
def k97 : Kd S97 := Kd.iso (Kd.pair Kd.string (Kd.pair (Kd.int .i64) (Kd.pair (Kd.int .i64) (Kd.pair (Kd.int .i64) Kd.bool)))) (fun x : S97 => (x.f0, x.f1, x.f2, x.f3, x.f4))
theorem zav {w : World} {x : S97} {cs : List Value} (h : k97.K w x cs) : cs = [.string x.f0, .int .i64 x.f1, .int .i64 x.f2, .int .i64 x.f3, .bool x.f4] := by
 obtain ⟨_, _, rfl, rfl, ⟨_, _, rfl, rfl, ⟨_, _, rfl, rfl, ⟨_, _, rfl, rfl, rfl⟩⟩⟩⟩ := h
 exact rfl
theorem xj (w : World) (base : Nat) (ok : Nat → Prop) (x : S97)  : k97.M w base ok x [.string x.f0, .int .i64 x.f1, .int .i64 x.f2, .int .i64 x.f3, .bool x.f4] := ⟨[.string x.f0], [.int .i64 x.f1, .int .i64 x.f2, .int .i64 x.f3, .bool x.f4], rfl, rfl, ⟨[.int .i64 x.f1], [.int .i64 x.f2, .int .i64 x.f3, .bool x.f4], rfl, rfl, ⟨[.int .i64 x.f2], [.int .i64 x.f3, .bool x.f4], rfl, rfl, ⟨[.int .i64 x.f3], [.bool x.f4], rfl, rfl, rfl⟩⟩⟩⟩
def z0W (xs : List S97) (i : Int) : S97 := xs.getD i.toNat z97
theorem zcK {w : World} {A : Option Addr} {n : Nat} {xs : List S97} (h : Kd.C k97 w A n xs) (i : Int) (h0 : 0 ≤ i) (h1 : i < n) : ∃ ad , A = some ad ∧ w.cell? (ad.add (i.toNat * 5)) = some (.string (z0W xs i).f0) ∧ w.cell? ⟨(ad.add (i.toNat * 5)).block, (ad.add (i.toNat * 5)).off + 1, none⟩ = some (.int .i64 (z0W xs i).f1) ∧ w.cell? ⟨(ad.add (i.toNat * 5)).block, (ad.add (i.toNat * 5)).off + 2, none⟩ = some (.int .i64 (z0W xs i).f2) ∧ w.cell? ⟨(ad.add (i.toNat * 5)).block, (ad.add (i.toNat * 5)).off + 3, none⟩ = some (.int .i64 (z0W xs i).f3) ∧ w.cell? ⟨(ad.add (i.toNat * 5)).block, (ad.add (i.toNat * 5)).off + 4, none⟩ = some (.bool (z0W xs i).f4) := by
 obtain ⟨ad, c, e, _, hK, hc0⟩ := Kd.z3V h z97 i h0 h1
 have hc : ∀ j u, c[j]? = some u → w.cell? (ad.add (i.toNat * 5 + j)) = some u := hc0
 obtain rfl := zav hK
 exact ⟨ad, e, hc 0 _ rfl, by rw [← yH _ _ 1 (by omega)]; exact hc 1 _ rfl, by rw [← yH _ _ 2 (by omega)]; exact hc 2 _ rfl, by rw [← yH _ _ 3 (by omega)]; exact hc 3 _ rfl, by rw [← yH _ _ 4 (by omega)]; exact hc 4 _ rfl⟩
end
end
end Go.Proofs.QP

namespace Go.Proofs.PW
open Go.RowKit
section
variable {P : Program} {ops : Array Oper} {rest : List Oper} {o : Oper} {a : Act} {Q' : Exit → Act → World → Prop} {Kc : Act → World → Prop} {α : Type}
theorem Kd.z66 (d : Kd α) {Rr : α → List Value → Prop} {w0 W : World} (base : Nat) (t ty e : TypeId) (z : Value) (bytes : Nat)
 (ht : P.underlying t = some (.slice e)) (hinfo : (P.info? e).map (fun i => (i.zero, i.size, i.bytes)) = some (some z, d.sz, bytes)) (hz : z.cells.size = d.sz) (hs0 : 0 < d.sz) (hb0 : 0 < bytes)
 (v : Value) (xs ys : List α) (A : Option Addr) (m c : Nat) (ok okp : Nat → Prop)
 (HO : d.Q e W base ok v xs) (HR : xa Rr d.sz W A m ys) (hKM : ∀ x cs, Rr x cs → d.M W base okp x cs) (hokp : ∀ k, okp k → ok k ∧ some k ≠ v.ownBlock) (hfresh : ∀ k, W.heap.size ≤ k → ok k)
 (HB : Below base w0 W) (hbase : base ≤ W.heap.size) (hl : (xs.length + m) * bytes ≤ 140737488355328) :
 ∃ v1 w1, (Builtin.append_ #[t, t] ty #[v, .slice A m c]).run P W = .ok v1 w1 ∧ d.Q e w1 base ok v1 (xs ++ ys) ∧ Below base w0 w1 ∧ W.grownBy w1 v.ownBlock ∧ (v1.ownBlock = v.ownBlock ∨ ∃ b, v1.ownBlock = some b ∧ W.heap.size ≤ b) := by
 obtain ⟨i0, hi, hzz⟩ := Option.map_eq_some_iff.1 hinfo
 simp only [Prod.mk.injEq] at hzz
 obtain ⟨hz0, hz1, hz2⟩ := hzz
 have hm : ys.length = m := HR.1
 have hlen : xs.length + m ≤ 140737488355328 := Nat.le_trans (Nat.le_mul_of_pos_right _ hb0) hl
 obtain ⟨h0, inner, hown, hr⟩ := HO
 rcases Nat.eq_zero_or_pos m with hm0 | hm0
 ·subst hm0
  obtain rfl : ys = [] := List.eq_nil_of_length_eq_zero hm
  refine ⟨v, W, ?_, by rw [List.append_nil]; exact ⟨h0, inner, hown, hr⟩, HB, World.grownBy.refl W _, .inl rfl⟩
  rcases hown.2 with ⟨hn, A', rfl, _⟩ | ⟨g, off, cap, cur, rfl, _, _, hnc, _⟩
  ·cases A <;> cases A' <;> simp [Builtin.append_, run_underlying ht, sizeOf, typeInfo, hi, Builtin.lenOf, Builtin.firstCells, storeCells, loadCells, loadCellsFrom]
  ·cases A <;> simp [Builtin.append_, run_underlying ht, sizeOf, typeInfo, hi, Builtin.lenOf, Builtin.firstCells, hnc, storeCells, loadCells, loadCellsFrom]
 ·obtain ⟨ad, rfl, _⟩ := HR.2.2 hm0
  obtain ⟨news, hnr, hnc⟩ := xa.z6l HR
  have hnM : zQ (d.M W base okp) d.sz ys news := hnr.z1k (fun p c hp => hKM p c hp)
  have hone : ∀ u ∈ news, u.oneCell' = true := by
   intro u hu
   obtain ⟨q, hq, rfl⟩ := List.mem_iff_getElem.1 hu
   have hql : q / d.sz < ys.length := by
    rw [Nat.div_lt_iff_lt_mul hs0]
    rw [← hnM.1]
    exact hq
   have hc := hnM.2 (q / d.sz) _ (List.getElem?_eq_getElem hql)
   refine d.K_one (d.K_of_M hc) _ ?_
   rw [List.mem_iff_getElem?]
   refine ⟨q % d.sz, ?_⟩
   rw [List.getElem?_take, if_pos (Nat.mod_lt _ hs0), List.getElem?_drop, Nat.mul_comm, Nat.div_add_mod, List.getElem?_eq_getElem hq]
  obtain ⟨v1, w1, hrun, h2, hg, hat'⟩ := zaQ (P := P) W base t ty e i0 z d.sz bytes ht hi hz0 hz1 hz2 hz hs0 v xs.length inner hown ad m c news (by rw [hnM.1, hm]) hnc hone hm0 (by simp only [maxLen]; omega) hl hbase
  have hne : ∀ k, some k ≠ v.ownBlock → k < W.heap.size → some k ≠ v1.ownBlock := by
   intro k hk hlt
   rcases hat' with hat | ⟨b, hb, hle⟩
   ·rw [hat]; exact hk
   ·rw [hb]
    intro he
    injection he with he
    omega
  have step : ∀ {q : α} {c : List Value} {o : Nat → Prop}, d.M W base o q c → (∀ k, o k → ok k ∧ some k ≠ v.ownBlock) → d.M w1 base (fun k => ok k ∧ some k ≠ v1.ownBlock) q c := by
   intro q c o hq ho
   have h1 := d.M_move (w1 := w1) (fun k hk => hg.block k hk.2.2.1 (ho k hk.1).2) (d.M_bound hq)
   exact d.M_mono (fun k hk => ⟨(ho k hk.1).1, hne k (ho k hk.1).2 hk.2.2.1⟩) h1
  refine ⟨v1, w1, hrun, ⟨fun k hk => ?_, inner ++ news, by rw [List.length_append, hm]; exact h2, z2J (hr.z1k (fun _ _ hq => step hq (fun _ hk => hk))) (hnM.z1k (fun _ _ hq => step hq hokp))⟩, HB.grown hg hbase (fun k hk => (z4u hown k hk).1), hg, hat'⟩
  rcases hat' with hat | ⟨b, hb, hle⟩
  ·exact h0 k (hat ▸ hk)
  ·rw [hb] at hk
   injection hk with hk
   exact hfresh k (by omega)
theorem Kd.z5f (d : Kd α) {Rr : α → List Value → Prop} {w0 W : World} (base : Nat) (hgd : o.guard = none) (s x : Operand) (t e : TypeId) (z : Value) (bytes : Nat)
 (ho : o.op = .call { callee := .builtin .append, args := #[s, x], argTypes := #[t, t] })
 (ht : P.underlying t = some (.slice e)) (hinfo : (P.info? e).map (fun i => (i.zero, i.size, i.bytes)) = some (some z, d.sz, bytes)) (hz : z.cells.size = d.sz) (hs0 : 0 < d.sz) (hb0 : 0 < bytes)
 (v : Value) (xs ys : List α) (A : Option Addr) (m c : Nat) (ok okp : Nat → Prop) (hs : a.eval s = v) (hx : a.eval x = .slice A m c)
 (HO : d.Q e W base ok v xs) (HR : xa Rr d.sz W A m ys) (hKM : ∀ x cs, Rr x cs → d.M W base okp x cs) (hokp : ∀ k, okp k → ok k ∧ some k ≠ v.ownBlock) (hfresh : ∀ k, W.heap.size ≤ k → ok k)
 (HB : Below base w0 W) (hbase : base ≤ W.heap.size) (hl : (xs.length + m) * bytes ≤ 140737488355328)
 (h : ∀ v1 w1, d.Q e w1 base ok v1 (xs ++ ys) → Below base w0 w1 → W.grownBy w1 v.ownBlock → (v1.ownBlock = v.ownBlock ∨ ∃ b, v1.ownBlock = some b ∧ W.heap.size ≤ b) → wpList P ops Q' rest (a.put o.dst v1) w1) :
 wpList P ops Q' (o :: rest) a W := by
 obtain ⟨v1, w1, hr, h1, h2, h3, h4⟩ := Kd.z66 (P := P) d base t o.type e z bytes ht hinfo hz hs0 hb0 v xs ys A m c ok okp HO HR hKM hokp hfresh HB hbase hl
 refine wpList_plain hgd fun K hK => ?_
 unfold Oper.wp execOp
 simp only [ho, resolve, invoke, builtin, Sem.run_bind, Sem.run_pure, Result.andThen_ok, List.map_toArray, List.map_cons, List.map_nil, hs, hx, hr]
 exact hK _ _ (h v1 w1 h1 h2 h3 h4)
end
end Go.Proofs.PW
namespace Go.Proofs.QP
open Go.RowKit
theorem zci : (Tryz.prog.info? 4).map (fun i => (i.zero, i.size, i.bytes)) = some (some (.bool false), 1, 1) := by kernel_rfl
end Go.Proofs.QP

namespace Go.Proofs.QP
open Go.RowKit Go.Proofs.PW Go.Proofs.PL Go.Proofs.PM Go.Proofs.FX
section
section
attribute [local go_sem] yd zV
attribute [local go_sem] xf xg xD xE yI yJ xl xm
def zS.f (a0_0 : Int) (l0_1 : List Int) : Option (Int × List Int) := (some (([] : List Int) : List Int)).bind fun y103 => (if 0 ≤ (mn (l0_1.length : Int) 5) then (if (mn (l0_1.length : Int) 5) ≤ (l0_1.length : Int) then (if y103.length + (l0_1.take ((mn (l0_1.length : Int) 5) : Int).toNat).length < 17592186044416 then (some (a0_0, (y103 ++ (l0_1.take ((mn (l0_1.length : Int) 5) : Int).toNat)))) else (none)) else (none)) else (none))
def zS.T1 : Bool × List (List Nat × List Nat) := (true, [([], []), ([0], [0]), ([], []), ([], []), ([3], [3]), ([], []), ([5], [5]), ([6], [6]), ([7], [7]), ([4, 8], [4, 8]), ([2, 9], [2, 9]), ([1, 10], [1, 10]), ([11, 10, 0, 1, 2, 3, 4, 5, 6, 7, 8, 9, 10, 11], [11])])
def zS.B1 : List Nat := [0, 1, 0, 0, 8, 0, 32, 96, 224, 504, 1020, 2047, 4095]
theorem zS.zek : z06 .any (opsOf Tryz.f134 1) = zS.T1 := by kernel_rfl
theorem zS.zds : z0f zS.T1.2 zS.B1 = true := by kernel_rfl
theorem zS.calls (a0_0 : Int) (A0_1 : Option Addr) (c0_1 : Nat) (l0_1 : List Int) (r1 : Int) (r2 : List Int) (w : World) (hr0_1 : Kd.C (Kd.int .i64) w A0_1 l0_1.length l0_1) (hc0_1 : l0_1.length ≤ c0_1) (h : zS.f a0_0 l0_1 = some (r1, r2)) :
 Calls Tryz.prog 134 #[.agg #[.int .i64 a0_0, .slice A0_1 l0_1.length c0_1]] w fun e w' => ∃ v1_ : Value, e = .returned (.agg #[.int .i64 r1, v1_]) ∧ Kd.R (Kd.int .i64) 3 w' w.heap.size (fun _ => True) v1_ r2 ∧ Below w.heap.size w w' := by
 have hu115 := Tryz.underlying115
 have HR0_1 := aS hr0_1
 have HC0_1 := aS hc0_1
 clear hr0_1 hc0_1
 have HB := hR w
 have H := h
 unfold zS.f at H
 clear h
 replace H := yB H
 obtain ⟨y103, Ny103, H⟩ := H
 obtain ⟨ji2, hji2⟩ : ∃ j_ : Int, (mn (l0_1.length : Int) 5) = j_ := ⟨_, rfl⟩
 simp only [hji2] at H
 (try (have hji2h : ji2 ≤ 5 := by (rw [← hji2]; unfold mn; (repeat' split) <;> omega)))
 (try (have hji2g : ji2 ≤ 64 := by omega))
 (try (have hji2l : 0 ≤ ji2 := by (rw [← hji2]; unfold mn; (repeat' split) <;> omega)))
 (try (have hji2m : 0 ≤ ji2 := by omega))
 have hji2_ : (if 5 < (l0_1.length : Int) then 5 else (l0_1.length : Int)) = ji2 := hji2
 replace H := iE_ H
 obtain ⟨c3b0, c3b1, H⟩ := H
 replace H := iE_ H
 obtain ⟨c4b0, c4b1, H⟩ := H
 replace H := iN_ H
 obtain ⟨c5, H⟩ := H
 have LMc5 := aS c5
 clear c5
 obtain ⟨y107, Ny107⟩ := yE (y103 ++ (l0_1.take ((ji2) : Int).toNat) : List Int)
 rw [← Ny107.out] at H
 simp only [Option.some.injEq, Prod.mk.injEq] at H
 obtain ⟨rfl, rfl⟩ := H
 go_enter Tryz.func134, Tryz.ntmps134
 try go_wp2_with (first | ((with_reducible refine zq (N := 1) rfl ?_); refine bx (N := 1) (cs := #[.int .i64 a0_0, .slice A0_1 l0_1.length c0_1]) (t := 115) ?_; intro gb101 hg w6 hbox hb; have BK101 := aS (hbox); have GW101 := (gz hg HB : Aside0 (w.heap.size ≤ gb101)); have GE101 := (gz hg HB : Aside0 (w.heap.size ≤ gb101)); replace HB := hB_ HB hb; clear hb hbox hg) | ((with_reducible refine zq (N := 2) rfl ?_); refine bx (N := 2) (cs := #[.int .i64 0, .slice none 0 0]) (t := 115) ?_; intro gb102 hg w7 hbox hb; have n0_ := aS (zf (bj BK101) hb); have n1_ := aS (bs_ (bl HB) hb); have n2_ := aS (hbox); have n3_ := (gz hg HB : Aside0 (w.heap.size ≤ gb102)); have n4_ := (gz hg HB : Aside0 (w.heap.size ≤ gb102)); have n5_ := aS ((by rw [hg]; exact Nat.ne_of_lt (yR (bj BK101)) : gb101 ≠ gb102)); have n6_ := aS ((by rw [hg]; exact Nat.ne_of_gt (yR (bj BK101)) : gb102 ≠ gb101)); clear BK101; clear HB; have BK101 := n0_; have HB := n1_; have BK102 := n2_; have GW102 := n3_; have GE102 := n4_; have NB101_102 := n5_; have NB102_101 := n6_; clear n0_ n1_ n2_ n3_ n4_ n5_ n6_; clear hb hbox hg))
 replace BK101 := aS (yb BK101.out)
 replace BK102 := aS (yb BK102.out)
 replace HB := aS (zD HB.out)
 obtain ⟨i09, hi09, _, hsz9, _⟩ := info_parts z3z
 obtain ⟨hcut9, hA9, hC9⟩ := z1Q (P := Tryz.prog) (Value.int .i64) 0 42 3 .i64 Tryz.underlying42 hi09 hsz9 A0_1 c0_1 l0_1 (ji2) (oa) (oa) HC0_1.out
 have HR106 := aS (Kd.z3c (h1 := fun _ => rfl) (hA9 _ (Kd.xv HR0_1.out)))
 have HC106 := aS hC9
 clear hA9 hC9 hi09 hsz9
 refine z16 (n := 13) (S := fun w' => w'.cell? ⟨gb101, 0, none⟩ = some (.int .i64 a0_0) ∧ w'.cell? ⟨gb101, 1, none⟩ = some (.slice A0_1 l0_1.length c0_1)) (ds := []) (mk 13 0) (by kernel_rfl) rfl (by kernel_rfl) ⟨(za BK101.out 0).trans rfl, (za BK101.out 1).trans rfl⟩ (fun hHeld => ?_); refine z0K zS.zek zS.zds (fun HT_ HW_ => ?_)
 generalize w7.drew = w8 at BK101 BK102 HB HR106 hHeld ⊢
 refine pv 0 3 (mk 13 1) ?_
 refine pv 3 6 (mk 13 9) ?_
 refine pv 5 8 (mk 13 41) ?_
 refine tv 1 4 (mk 13 43) hHeld ?_
 refine tv 4 7 (mk 13 59) hHeld ?_
 refine tv 6 9 (mk 13 123) hHeld ?_
 refine pv 7 10 (mk 13 251) ?_
 refine pv 8 11 (mk 13 507) ?_
 refine pv 9 12 (mk 13 1019) ?_
 refine z0Z (i := 2) (N := some 5) (mk 13 1023) rfl rfl (z0k HT_.out (by kernel_rfl)) (by decide) (fun K hK => ?_)
 refine Kd.z26 (Kd.int .i64) _ 3 ?hg (N := 5) ?hd (xs := ([] : List Int)) (inner := []) (ok := fun _ => True) (okp := fun _ => True) ?hr ?hp (fun _ hk => hk) trivial (Below.refl _ _) (Nat.le_refl _) (by simp) ?_; (case hd => rfl); (case hg => rfl); (case hr => first | (go_simp; done) | (go_simp; rfl)); (case hp => exact (zQ.none _ _))
 intro v104 w10 ho11 hb hg_ hnew_
 clear hg_ hnew_
 (first | rw [← Ny103.out] at ho11 | (simp only [Int.reduceToNat] at ho11; rw [← Ny103.out] at ho11))
 have HO105 := aS (Kd.zL ho11 (zg (bl HB)))
 replace BK101 := bb BK101 hb
 replace BK102 := bb BK102 hb
 replace HB := hB_ HB hb
 clear hb ho11
 refine hK.out _ _ ⟨(za BK101.out 0).trans rfl, (za BK101.out 1).trans rfl⟩ (fun hHeld => ?_)
 clear hK K
 refine xY (a' := ?_) ?_ ?_
 rotate_left
 ·show Act.put _ (some 5) _ = _
  simp only [Act.put, List.setIfInBounds_toArray, List.set_cons_zero, List.set_cons_succ, yh, yQ]
  rfl
 refine z0Z (i := 10) (N := some 13) (mk 13 2047) rfl rfl (z0k HT_.out (by kernel_rfl)) (by decide) (fun K hK => ?_)
 refine Kd.z0p (Kd.int .i64) (w0 := w) w.heap.size (by rfl) (.tmp 5) (.tmp 12) 42 3 (.int .i64 0) 8 rfl Tryz.underlying42 z3z rfl (by decide) (by omega) v104 y103 (l0_1.take ((ji2) : Int).toNat) _ _ _ (fun _ => True) (fun _ => False) rfl rfl ?aO ?aR (fun _ _ h => h) (fun _ h => h.elim) ?aF ?aB ?aS ?aL ?_
 (case aR => first | (have hr_ := HR106.out; rw [show (l0_1.take ((ji2) : Int).toNat).length = (ji2).toNat from (by rw [List.length_take]; have h_ : ((ji2) : Int) ≤ (l0_1.length : Int) := oa; omega)] at hr_; exact cA (Kd.zK hr_ HB.out); done) | (exact cA (Kd.zK HR106.out HB.out)))
 (case aB => exact (bl HB))
 (case aF => exact (fun _ _ => trivial))
 (case aO => exact (by exact rA HO105.out))
 (case aS => exact (zg (bl HB)))
 (case aL => have := LMc5.out; have hlx_ := (show (l0_1.take ((ji2) : Int).toNat).length = (ji2).toNat from (by rw [List.length_take]; have h_ : ((ji2) : Int) ≤ (l0_1.length : Int) := oa; omega)); omega)
 intro v108 w12 ho hb hg hat
 rw [← Ny107.out] at ho
 replace BK101 := aS (yX (bj BK101) hg (Kd.z3f HO105.out BK101.out (by decide)))
 replace BK102 := aS (yX (bj BK102) hg (Kd.z3f HO105.out BK102.out (by decide)))
 replace HB := aS (hb)
 have HO109 := aS (ho)
 clear HO105
 clear ho hb hg hat
 obtain ⟨Ao13, co13, eo13⟩ := Kd.zB HO109.out
 (first | subst eo13 | (injection eo13 with f1_ f2_ f3_; have f4_ := f1_.symm; have f5_ := f3_.symm; clear f1_ f2_ f3_; subst f4_; subst f5_))
 refine hK.out _ _ ⟨(za BK101.out 0).trans rfl, (za BK101.out 1).trans rfl⟩ (fun hHeld => ?_)
 clear hK K
 refine xY (a' := ?_) ?_ ?_
 rotate_left
 ·show Act.put _ (some 13) _ = _
  simp only [Act.put, List.setIfInBounds_toArray, List.set_cons_zero, List.set_cons_succ, yh, yQ]
  rfl
 refine pv 11 14 (mk 13 4095) ?_
 refine z0Z (i := 12) (N := none) (mk 13 8191) rfl rfl (z0k HT_.out (by kernel_rfl)) (by decide) (fun K hK => ?_)
 have hs14 : w12.cell? ⟨gb102, 0, none⟩ = some (.int .i64 0) := (za BK102.out 0).trans rfl
 have hfs14 := zn BK102.out 0
 have hns14_0 := NB101_102.out
 have hms14_0 := NB102_101.out
 have hs15 : w12.cell? ⟨gb102, 1, none⟩ = some (.slice none 0 0) := (za BK102.out 1).trans rfl
 have hfs15 := zn BK102.out 1
 have hns15_0 := NB101_102.out
 have hms15_0 := NB102_101.out
 refine z1Z (w1 := ?_) (by rfl) rfl ?_ ?_
 rotate_left
 ·go_simp
  rfl
 refine hK.out _ _ ⟨((cell_far (p := ⟨gb102, _, none⟩) NB101_102.out _).trans (((cell_far (p := ⟨gb102, _, none⟩) NB101_102.out _).trans (hHeld.1)))), ((cell_far (p := ⟨gb102, _, none⟩) NB101_102.out _).trans (((cell_far (p := ⟨gb102, _, none⟩) NB101_102.out _).trans (hHeld.2))))⟩ (fun hHeld => ?_)
 clear hK K
 refine z1U (z1L HT_.out (by kernel_rfl)) ?_
 try go_wp2
 refine bodyPost_ret (results_cell_row rfl _ _ gb102 115 #[.int .i64 a0_0, .slice Ao13 y107.length co13] (0, 0) _ rfl (bp BK102) Tryz.underlying115 rfl (by kernel_rfl)) rfl ?_
 exact ⟨_, by first | rfl | (simp [yY, yZ] <;> rfl) | (simp only [← hji2]; first | rfl | (simp [yY, yZ] <;> rfl)) | (simp [*, yY, yZ] <;> rfl), by exact Kd.zw (rF (Kd.xh HO109.out BK102.out (by decide))) (fun _ hk => trivial), bl HB⟩
def zE.l0 : Nat → List (xx) → List (xx) → Int → Option ((List (xx)))
 | 0, _, _, _ => none
 | k + 1, x0, x3, x4 => if x4 < (x0.length : Int) then (if x4 < 66 then (if 0 ≤ x4 then ((zS.f ((yg x0 x4).f0) ((yg x0 x4).f1)).bind fun bt111 => (if x3.length < 4398046511104 then (zE.l0 k x0 (x3 ++ [(⟨bt111.1, bt111.2⟩ : xx)]) (wrap64 (x4 + 1))) else (none))) else (none)) else (some x3)) else (some x3)
def zE.f (k : Nat) (l0 : List (xx)) : Option ((List (xx))) := zE.l0 k l0 ([] : List (xx)) 0
theorem zE.calls (k : Nat) (A0 : Option Addr) (c0 : Nat) (l0 : List (xx)) (r : List (xx)) (w : World) (hr0 : Kd.C xC w A0 l0.length l0) (hc0 : l0.length ≤ c0) (h : zE.f k l0 = some r) :
 Calls Tryz.prog 84 #[.slice A0 l0.length c0] w fun e w' => ∃ v0_ : Value, e = .returned (v0_) ∧ Kd.S xC 115 w' w.heap.size (fun _ => True) v0_ r ∧ Below w.heap.size w w' := by
 have hu115 := Tryz.underlying115
 have HR0 := aS hr0
 have HC0 := aS hc0
 clear hr0 hc0
 have HB := hR w
 have H := h
 unfold zE.f at H
 clear h
 have H' := aS H
 clear H
 go_enter Tryz.func84, Tryz.ntmps84
 go_wp2
 go_loopg [3, 4] k (fun kq v3 v4 w' => ∃ (x3_1 : List (xx)) (x4_1 : Int), v4 = .int .i64 x4_1 ∧ Aside0 (zE.l0 kq l0 x3_1 x4_1 = some r) ∧ Aside0 (kq ≤ k) ∧ Aside0 (Kd.S xC 115 w' w.heap.size (fun _ => True) v3 x3_1) ∧ Aside0 (Below w.heap.size w w'))
 case atStart => exact ⟨(([] : List (xx))), (0), rs, H', ⟨Nat.le_refl _⟩, ⟨by first | exact Kd.z2u _ _ _ _ _ | exact Kd.z2l _ _ _ _ _ | exact Kd.z2w _ _ _ _ _ | exact Kd.z2o _ _ _ _ _ | exact Kd.z0l _ _ _ _ _⟩, ⟨bl HB⟩⟩
 case round =>
  clear H'
  obtain ⟨x3_1, x4_1, rfl, HA, HK1, HO_3, HB⟩ := hrel
  cases gk with
  | zero => exact absurd HA.out (by simp [zE.l0])
  | succ k1 =>
   have H := HA.out
   clear HA
   simp only [zE.l0] at H
   by_cases c2 : x4_1 < (l0.length : Int); rotate_left
   ·rw [if_neg c2] at H
    have c2b0 := dF c2
    clear c2
    obtain rfl := sI H
    go_wp2
    go_ret
    exact ⟨_, re, by exact sA HO_3.out, bl HB⟩
   rw [if_pos c2] at H
   have c2b0 := dT c2
   clear c2
   by_cases c3 : x4_1 < 66; rotate_left
   ·rw [if_neg c3] at H
    have c3b0 := dF c3
    clear c3
    obtain rfl := sI H
    go_wp2
    go_ret
    exact ⟨_, re, by exact sA HO_3.out, bl HB⟩
   rw [if_pos c3] at H
   have c3b0 := dT c3
   clear c3
   replace H := iD_ H
   obtain ⟨c4b0, H⟩ := H
   replace H := bS H
   obtain ⟨⟨t111, t112⟩, A50, H⟩ := H
   (try dsimp only at H)
   have A5 := aS A50
   clear A50
   replace H := iN_ H
   obtain ⟨c6, H⟩ := H
   have LMc6 := aS c6
   clear c6
   obtain ⟨y115, Ny115⟩ := yE (x3_1 ++ [(⟨t111, t112⟩ : xx)] : List (xx))
   rw [← Ny115.out] at H
   have H' := aS H
   clear H
   obtain ⟨ad110, A110_1, c110_1, e110, hx110_0, hx110_1, hl110_1, hi110_1⟩ := z2b HR0.out x4_1 oa oa
   cases e110
   replace hx110_0 := xb HB hx110_0
   replace hx110_1 := xb HB hx110_1
   have HR110_1 := aS hi110_1
   have HC110_1 := aS hl110_1
   clear hi110_1 hl110_1
   have p110 : (0 ≤ (x4_1 : Int)) = True := tO
   have q110 : (x4_1 < (l0.length : Int)) = True := tO
   go_wp2_with (first | ((with_reducible refine zi (f := 134) rfl ?_); refine gl 20 Tryz.func134 #[.agg #[.int .i64 ((yg l0 x4_1).f0), .slice A110_1 ((yg l0 x4_1).f1).length c110_1]] ?_; (with_reducible refine (zS.calls ((yg l0 x4_1).f0) _ _ ((yg l0 x4_1).f1) t111 t112 _ ?side1 ?side2 A5.out).mono ?_); (case side1 => exact cb HR110_1 HB); (case side2 => exact HC110_1.out); rintro e w7 ⟨v113, rfl, ho0, hb⟩; refine ⟨_, rfl, ?_⟩; replace HO_3 := aS (Kd.z3s (by exact sA HO_3.out) (Kd.yf ho0) hb); have HO114 := aS (Kd.zL ho0 (zg (bl HB))); replace HB := hB_ HB hb; clear hb ho0; obtain ⟨Ao9, co9, eo9⟩ := Kd.zB HO114.out; subst eo9) | ((with_reducible refine yV (b := .append) (xs := #[.tmp 15, .tmp 21]) rfl ?_); at_builtin; refine Kd.z6z xC (w0 := w) w.heap.size rfl (.tmp 15) (.tmp 21) 47 115 (.agg #[(.int .i64 0), (.slice none 0 0)]) 32 rfl Tryz.underlying47 z2d rfl (by decide) (by omega) u3 x3_1 (⟨t111, t112⟩ : xx) [.int .i64 t111, .slice Ao9 t112.length co9] (fun _ => True) (fun k_ => some k_ = (.slice Ao9 t112.length co9 : Value).ownBlock) rfl rfl ?aP (fun k_ hk_ => ((Kd.zw (ok' := fun k_ => ((fun _ => True)) k_ ∧ some k_ ≠ (u3 : Value).ownBlock) (Kd.z0t (HO114.out) (Kd.z1I HO_3.out) (by decide)) (fun k_ hk => ⟨trivial, hk.2⟩))).1 k_ hk_.symm) ?aF ?aO ?aB ?aS ?aL ?_; (case aP => exact z6S _ _ _ (⟨t111, t112⟩ : xx) (Kd.zw (Kd.z0Q rfl (Kd.zw (ok' := fun k_ => ((fun _ => True)) k_ ∧ some k_ ≠ (u3 : Value).ownBlock) (Kd.z0t (HO114.out) (Kd.z1I HO_3.out) (by decide)) (fun k_ hk => ⟨trivial, hk.2⟩))) (fun _ h_ => h_))); (case aB => exact (bl HB)); (case aF => exact (fun _ _ => trivial)); (case aO => exact (by exact sA (Kd.xM HO_3.out (fun k_ hk => ⟨trivial, fun e_ => hk.2 e_⟩)))); (case aS => exact (zg (bl HB))); (case aL => have := LMc6.out; omega); intro v116 w8 ho hb hg hat; rw [← Ny115.out] at ho; replace HB := aS (hb); have HO117 := aS (ho); clear HO_3 HO114; clear ho hb hg hat))
   go_roundg k1
   case measure => have := HK1.out; omega
   case rel => exact ⟨(y115), (wrap64 (x4_1 + 1)), rs, H', ⟨by have := HK1.out; omega⟩, ⟨by exact sA HO117.out⟩, ⟨bl HB⟩⟩
end
end
end Go.Proofs.QP

