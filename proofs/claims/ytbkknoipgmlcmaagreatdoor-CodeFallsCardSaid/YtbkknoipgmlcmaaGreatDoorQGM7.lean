import Derived.Lib.AppendZeros
import Derived.Test.YtbkknoipgmlcmaaGreatDoorQGM6
set_option linter.all false
set_option maxHeartbeats 8000000
set_option maxRecDepth 100000
namespace Go.Proofs.QP
open Go.RowKit Go.Proofs.PW Go.Proofs.PL Go.Proofs.PM Go.Proofs.FX
def z5G : List UInt8 := [97, 98, 99, 100, 101, 102, 103, 104, 105, 106, 107, 108, 109, 110, 111, 112, 113, 114, 115, 116, 117, 118, 119, 120, 121, 122, 48, 49, 50, 51, 52, 53, 54, 55, 56, 57, 95, 46]
theorem z5H (b : UInt8) : z5G.contains b = true ↔ ((97 ≤ (b.toNat : Int) ∧ (b.toNat : Int) ≤ 122) ∨ (b.toNat : Int) = 95 ∨ (b.toNat : Int) = 46 ∨ (48 ≤ (b.toNat : Int) ∧ (b.toNat : Int) ≤ 57)) := by
 have h : ∀ n : Fin 256, z5G.contains (UInt8.ofNat n.val) = true ↔ ((97 ≤ n.val ∧ n.val ≤ 122) ∨ n.val = 95 ∨ n.val = 46 ∨ (48 ≤ n.val ∧ n.val ≤ 57)) := by decide +kernel
 have h2 := h ⟨b.toNat, b.toNat_lt⟩
 simp only [UInt8.ofNat_toNat] at h2
 rw [h2]
 omega
theorem z4o {p : UInt8 → Bool} : ∀ l : List UInt8, l.dropWhile p = [] ↔ ∀ b ∈ l, p b = true
 | [] => by simp
 | a :: l => by
  rw [List.dropWhile_cons]
  by_cases h : p a = true
  ·rw [if_pos h, z4o l]; simp [h]
  ·rw [if_neg h]; simp [h]
theorem z6J {p : UInt8 → Bool} : ∀ (l : List UInt8) (a : UInt8) (t : List UInt8), l.dropWhile p = a :: t → p a = false
 | [], a, t, h => by simp at h
 | b :: l, a, t, h => by
  rw [List.dropWhile_cons] at h
  by_cases hb : p b = true
  ·rw [if_pos hb] at h; exact z6J l a t h
  ·rw [if_neg hb] at h
   injection h with h1 h2
   rw [← h1]
   simpa using hb
theorem z9y (l cs : List UInt8) : Lib.trimS l cs = [] ↔ ∀ b ∈ l, cs.contains b = true := by
 unfold Lib.trimS Lib.trimLeftS Lib.trimRightS
 rw [z4o]
 constructor
 ·intro h
  have h2 : l.reverse.dropWhile (fun x => cs.contains x) = [] := by
   cases hd : l.reverse.dropWhile (fun x => cs.contains x) with
   | nil => rfl
   | cons a t =>
    exfalso
    have h3 : cs.contains a = true := h a (by rw [hd]; simp)
    rw [z6J _ _ _ hd] at h3
    cases h3
  rw [z4o] at h2
  exact fun b hb => h2 b (List.mem_reverse.2 hb)
 ·intro h b hb
  have h2 : l.reverse.dropWhile (fun x => cs.contains x) = [] := (z4o _).2 (fun b hb => h b (List.mem_reverse.1 hb))
  rw [h2] at hb
  simp at hb
theorem z6H (s : ByteArray) (i : Nat) (h : i < s.size) : bt s (i : Int) = ((s.data.toList[i]'(by simpa using h)).toNat : Int) := by
 rw [z7r h]
 simp [ByteArray.getElem_eq_getElem_data]
theorem z9e (s : ByteArray) : z1r s = (decide (1 ≤ s.size) && (decide (s.size ≤ 24) && (decide (97 ≤ bt s 0) && (decide (bt s 0 ≤ 122) && decide (Lib.trimS s.data.toList z5G = []))))) := by
 rw [Bool.eq_iff_iff]
 unfold z1r
 simp only [Bool.and_eq_true, decide_eq_true_eq]
 rw [z9y]
 have hmem : (∀ b ∈ s.data.toList, z5G.contains b = true) ↔ ∀ i (h : i < s.size), z5G.contains (s.data.toList[i]'(by simpa using h)) = true := by
  constructor
  ·intro h i hi
   exact h _ (List.getElem_mem _)
  ·intro h b hb
   obtain ⟨i, hi, rfl⟩ := List.getElem_of_mem hb
   exact h i (by simpa using hi)
 rw [hmem]
 constructor
 ·rintro ⟨h1, h2, h3⟩
  have h0 := h1 0 (by omega)
  unfold okI at h0
  refine ⟨h2, h3, by simpa using (h0.resolve_right (fun h => h.1 rfl)).1, by simpa using (h0.resolve_right (fun h => h.1 rfl)).2, fun i hi => ?_⟩
  rw [z5H, ← z6H s i hi]
  have := h1 i hi
  unfold okI at this
  omega
 ·rintro ⟨h1, h2, h3, h4, h5⟩
  refine ⟨fun i hi => ?_, h1, h2⟩
  have h6 := h5 i hi
  rw [z5H, ← z6H s i hi] at h6
  unfold okI
  by_cases h0 : i = 0
  ·subst h0
   exact .inl ⟨h3, h4⟩
  ·omega
theorem z2e (s : ByteArray) (w : World) (hs : s.size ≤ 100000) : Calls Tryz.prog 86 #[.string s] w fun e w' => e = .returned (.bool (z1r s)) ∧ Below w.heap.size w w' := by
 have ha : ∀ (j : Nat) (b : UInt8), (#[97, 98, 99, 100, 101, 102, 103, 104, 105, 106, 107, 108, 109, 110, 111, 112, 113, 114, 115, 116, 117, 118, 119, 120, 121, 122, 48, 49, 50, 51, 52, 53, 54, 55, 56, 57, 95, 46] : Array UInt8).toList[j]? = some b → b.toNat < 128 := by
  intro j b h
  have hm := List.mem_of_getElem? h
  exact (by decide : ∀ x ∈ (#[97, 98, 99, 100, 101, 102, 103, 104, 105, 106, 107, 108, 109, 110, 111, 112, 113, 114, 115, 116, 117, 118, 119, 120, 121, 122, 48, 49, 50, 51, 52, 53, 54, 55, 56, 57, 95, 46] : Array UInt8).toList, x.toNat < 128) b hm
 have HS := aS hs
 have HN := aS (z9e s)
 by_cases h1 : 1 ≤ s.size
 ·have c1 : (0 < s.size) = True := eq_true (by omega)
  have c2 : ((0 : Int) < (s.size : Int)) = True := eq_true (by omega)
  have HBT : Aside0 (∀ h : 0 < s.size, bt s 0 = (s[0].toNat : Int)) := ⟨fun h => z7r h⟩
  have H1 := aS h1
  clear hs h1
  go_enter Tryz.func86, Tryz.ntmps86
  go_wp2_with (go_at_call 135; refine (Tryz.strings_Trim_set _ _ _ (by have := HS.out; omega) (by decide) ha).mono ?_; rintro e w1 ⟨rfl, hb⟩)
  all_goals refine bodyPost_ret (v := .bool (z1r s)) ?_ rfl ⟨rfl, by first | exact hb | exact Below.refl _ _⟩
  all_goals (rw [HN.out, HBT.out (by have := H1.out; omega)]; simp [results, Tryz.results86, go_sem, z5G])
  all_goals first
   | (intro i1 i2 i3 i4; omega)
   | (rw [Bool.eq_iff_iff]; simp only [Bool.and_eq_true, decide_eq_true_eq, List.isEmpty_iff]; exact ⟨fun h => ⟨by omega, by omega, by omega, by omega, dT h⟩, fun h => of_decide_eq_true h.2.2.2.2⟩)
 ·have HF : Aside0 (z1r s = false) := ⟨by rw [HN.out, dF h1]; rfl⟩
  have c1 : decide (1 ≤ (s.size : Int)) = false := dF (by omega)
  have c2 := dF h1
  have c3 : (1 ≤ s.size) = False := eq_false h1
  clear hs h1
  go_enter Tryz.func86, Tryz.ntmps86
  go_wp2
  all_goals (first | (exfalso; have := c3; simp_all; done) | skip)
  all_goals refine bodyPost_ret (v := .bool false) (by simp [results, Tryz.results86, go_sem]) rfl ⟨by rw [HF.out], Below.refl _ _⟩
theorem z7P (g : Nat) (a b : ByteArray) (B1 B2 B4 R1 R2 R4 : Option Addr) (n1 e1 n2 e2 n4 e4 m1 k1 m2 k2 m4 k4 : Nat) (u v : Int) (w : World) (hr : w.heap[g]? = some (.cells #[.string b, .slice R1 m1 k1, .slice R2 m2 k2, .int .i64 v, .slice R4 m4 k4] 50 (0, 0))) :
 Calls Tryz.prog 88 #[.agg #[.string a, .slice B1 n1 e1, .slice B2 n2 e2, .int .i64 u, .slice B4 n4 e4], .pointer (some ⟨g, 0, none⟩)] w fun e w' => e = .returned (.bool (decide (a.toList = b.toList))) ∧ Below w.heap.size w w' := by
 have hu50 := Tryz.underlying50
 have x0 : ∀ o, (w.alloc o).cell? ⟨g, 0, none⟩ = some (.string b) := fun o => (yL (zZ hr o)).1
 obtain ⟨d, hd⟩ : ∃ d, decide (a.toList = b.toList) = d := ⟨_, rfl⟩
 rw [hd]
 have e1_ : (a.toList == b.toList) = d := by rw [← hd, Bool.eq_iff_iff]; simp
 clear hr hd
 go_enter Tryz.func88, Tryz.ntmps88
 go_wp2
 refine bodyPost_ret (by simp [results, Tryz.results88, go_sem]) rfl ⟨rfl, zl (Below.refl _ _) _⟩
theorem z7F (g c0 m : Nat) (ad : Addr) (l0 : List S50) (b : ByteArray) (R1 R2 R4 : Option Addr) (m1 k1 m2 k2 m4 k4 : Nat) (v : Int) (w : World) (hr0 : Kd.C k50 w (some ad) l0.length l0) (hm : m ≤ l0.length)
 (hr : w.heap[g]? = some (.cells #[.string b, .slice R1 m1 k1, .slice R2 m2 k2, .int .i64 v, .slice R4 m4 k4] 50 (0, 0))) :
 Calls Tryz.prog 136 #[.slice (some ad) m c0, .func (Fn.func 88) #[] #[.pointer (some ⟨g, 0, none⟩)]] w fun e w' => ∃ i : Int, e = .returned (.int .i64 i) ∧ (0 ≤ i ↔ ¬ ∀ j < m, (z8 l0 (j : Int)).f0.toList ≠ b.toList) ∧ Below w.heap.size w w' := by
 have hu50 := Tryz.underlying50
 have HR0 := aS hr0
 have HM := aS (And.intro hm (Kd.z2k hr0))
 have HG := aS hr
 clear hr0 hm hr
 go_enter Tryz.func136, Tryz.ntmps136
 go_wp2
 go_loopg [8] (m + 1) (fun kq v8 w' => ∃ j : Nat, v8 = .int .i64 (j : Int) ∧ Aside0 (kq + j = m + 1 ∧ j ≤ m ∧ ∀ i < j, (z8 l0 (i : Int)).f0.toList ≠ b.toList) ∧ Aside0 (Below w.heap.size w w'))
 case atStart => exact ⟨0, rfl, ⟨rfl, Nat.zero_le _, fun i hi => absurd hi (Nat.not_lt_zero _)⟩, ⟨Below.refl _ _⟩⟩
 case round =>
  obtain ⟨j, rfl, HJ, HW⟩ := hrel
  by_cases hj : j < m; rotate_left
  ·have q1 : decide ((j : Int) < (m : Int)) = false := dF (by omega)
   have q2 := dF hj
   have q3 : (j < m) = False := eq_false hj
   have q5 : ((j : Int) < (m : Int)) = False := eq_false (by omega)
   have HA : Aside0 (∀ j < m, (z8 l0 (j : Int)).f0.toList ≠ b.toList) := ⟨fun i hi => HJ.out.2.2 i (by omega)⟩
   clear hj HJ
   go_wp2
   refine bodyPost_ret (v := .int .i64 (-1)) (by simp [results, Tryz.results136, go_sem]) rfl ⟨-1, rfl, ⟨fun h => absurd h (by decide), fun h => absurd HA.out h⟩, HW.out⟩
  have q1 : decide ((j : Int) < (m : Int)) = true := dT (by omega)
  have q2 := dT hj
  have q3 : (j < m) = True := eq_true hj
  have q4 : (0 ≤ (j : Int)) = True := eq_true (by omega)
  have q5 : ((j : Int) < (m : Int)) = True := eq_true (by omega)
  have q7 : wrap64 ((j : Int) + 1) = ((j + 1 : Nat) : Int) := by have := HM.out; unfold wrap64; omega
  obtain ⟨ad2, B1, e1, B2, e2, B4, e4, eA, y0, y1, y2, y3, y4, _, _, _, _, _, _⟩ := xW (Kd.zK HR0.out HW.out) (j : Int) (by omega) (by have := HM.out; omega)
  obtain rfl : ad = ad2 := (by injection eA)
  rw [Int.toNat_natCast] at y0 y1 y2 y3 y4
  have HJ2 := aS hj
  clear hj
  obtain ⟨x, hx⟩ : ∃ x, z8 l0 (j : Int) = x := ⟨_, rfl⟩
  have HX := aS hx
  rw [hx] at y0 y1 y2 y3 y4
  have HL := aS (fun W (hb : Below wr.heap.size wr W) => z7P g x.f0 b B1 B2 B4 R1 R2 R4 x.f1.length e1 x.f2.length e2 x.f4.length e4 m1 k1 m2 k2 m4 k4 x.f3 v W (zf HG.out (bs_ HW.out hb)))
  clear hx
  by_cases he : x.f0.toList = b.toList
  ·have HE := aS he
   have hd := dT he
   rw [hd] at HL
   clear he hd
   go_wp2_with (go_at_call 88; (with_reducible refine (HL.out _ (by first | exact Below.refl _ _ | exact zd (Below.refl _ _) _)).mono ?_); rintro e w4 ⟨rfl, hb⟩; replace HW := aS (bs_ HW.out hb); clear hb)
   refine bodyPost_ret (v := .int .i64 (j : Int)) (by simp [results, Tryz.results136, go_sem]) rfl ⟨(j : Int), rfl, ⟨fun _ h => h j HJ2.out (by rw [HX.out]; exact HE.out), fun _ => by omega⟩, HW.out⟩
  ·have HE := aS he
   have hd := dF he
   rw [hd] at HL
   clear he hd
   go_wp2_with (go_at_call 88; (with_reducible refine (HL.out _ (by first | exact Below.refl _ _ | exact zd (Below.refl _ _) _)).mono ?_); rintro e w4 ⟨rfl, hb⟩; replace HW := aS (bs_ HW.out hb); clear hb)
   cases gk with
   | zero => exact absurd HJ.out.1 (by have := HJ2.out; omega)
   | succ k3 =>
    go_roundg k3
    case measure => omega
    case rel => exact ⟨j + 1, by first | rfl | rw [q7], ⟨by have := HJ.out.1; omega, by have := HJ2.out; omega, fun i hi => (Nat.lt_succ_iff_lt_or_eq.1 hi).elim (HJ.out.2.2 i) (fun h => by rw [h, HX.out]; exact HE.out)⟩, HW⟩
theorem z7v (g c0 m : Nat) (ad : Addr) (l0 : List S50) (b : ByteArray) (R1 R2 R4 : Option Addr) (m1 k1 m2 k2 m4 k4 : Nat) (v : Int) (w : World) (hr0 : Kd.C k50 w (some ad) l0.length l0) (hm : m ≤ l0.length)
 (hr : w.heap[g]? = some (.cells #[.string b, .slice R1 m1 k1, .slice R2 m2 k2, .int .i64 v, .slice R4 m4 k4] 50 (0, 0))) :
 Calls Tryz.prog 87 #[.slice (some ad) m c0, .func (Fn.func 88) #[] #[.pointer (some ⟨g, 0, none⟩)]] w fun e w' => e = .returned (.bool (!decide (∀ j < m, (z8 l0 (j : Int)).f0.toList ≠ b.toList))) ∧ Below w.heap.size w w' := by
 obtain ⟨d, hd⟩ : ∃ d, decide (∀ j < m, (z8 l0 (j : Int)).f0.toList ≠ b.toList) = d := ⟨_, rfl⟩
 have HI : Aside0 (Calls Tryz.prog 136 #[.slice (some ad) m c0, .func (Fn.func 88) #[] #[.pointer (some ⟨g, 0, none⟩)]] w fun e w' => ∃ i : Int, e = .returned (.int .i64 i) ∧ decide (0 ≤ i) = (!d) ∧ Below w.heap.size w w') :=
  ⟨(z7F g c0 m ad l0 b R1 R2 R4 m1 k1 m2 k2 m4 k4 v w hr0 hm hr).mono (fun e w' ⟨i, h1, h2, h3⟩ => ⟨i, h1, by
   cases d
   ·rw [dT (h2.2 (of_decide_eq_false hd))]; rfl
   ·rw [dF (fun h => (h2.1 h) (of_decide_eq_true hd))]; rfl, h3⟩)⟩
 rw [hd]
 clear hr0 hm hr hd
 go_enter Tryz.func87, Tryz.ntmps87
 go_wp2_with fail
 (with_reducible refine HI.out.mono ?_)
 rintro e w1 ⟨i, rfl, hi, hb⟩
 go_wp2
 refine bodyPost_ret (v := .bool (!d)) (by simp [results, Tryz.results87, go_sem, hi]) rfl ⟨rfl, hb⟩
end Go.Proofs.QP

namespace Go.Proofs.QP
def eqL {α : Type} (f : α → α → Bool) : List α → List α → Bool
 | [], [] => true
 | x :: xs, y :: ys => f x y && eqL f xs ys
 | _, _ => false
theorem z3P {α : Type} {f : α → α → Bool} (hf : ∀ x y, f x y = true → x = y) : ∀ xs ys : List α, eqL f xs ys = true → xs = ys
 | [], [], _ => rfl
 | [], _ :: _, h => by cases h
 | _ :: _, [], h => by cases h
 | x :: xs, y :: ys, h => by
  simp only [eqL, Bool.and_eq_true] at h
  rw [hf x y h.1, z3P hf xs ys h.2]
def eqB (x y : ByteArray) : Bool := decide (x.data.toList = y.data.toList)
theorem zcO {x y : ByteArray} (h : eqB x y = true) : x = y := by
 have h2 := of_decide_eq_true h
 cases x with
 | mk d => cases y with
  | mk e => cases d; cases e; simp only at h2; subst h2; rfl
def z8u (x y : xx) : Bool := decide (x.f0 = y.f0) && decide (x.f1 = y.f1)
theorem z6L (x y : xx) (h : z8u x y = true) : x = y := by
 cases x; cases y
 simp only [z8u, Bool.and_eq_true, decide_eq_true_eq] at h
 obtain ⟨rfl, rfl⟩ := h
 rfl
def zcM (x y : S61) : Bool := decide (x.f0 = y.f0) && (decide (x.f1 = y.f1) && (decide (x.f2 = y.f2) && decide (x.f3 = y.f3)))
theorem zbx (x y : S61) (h : zcM x y = true) : x = y := by
 cases x; cases y
 simp only [zcM, Bool.and_eq_true, decide_eq_true_eq] at h
 obtain ⟨rfl, rfl, rfl, rfl⟩ := h
 rfl
def zcN (x y : S63) : Bool := decide (x.f0 = y.f0) && (decide (x.f1 = y.f1) && (decide (x.f2 = y.f2) && (decide (x.f3 = y.f3) && zcM x.f4 y.f4)))
theorem zby (x y : S63) (h : zcN x y = true) : x = y := by
 cases x; cases y
 simp only [zcN, Bool.and_eq_true, decide_eq_true_eq] at h
 obtain ⟨rfl, rfl, rfl, rfl, h5⟩ := h
 rw [zbx _ _ h5]
def zbw (x y : S50) : Bool := eqB x.f0 y.f0 && (eqL z8u x.f1 y.f1 && (eqL z8u x.f2 y.f2 && (decide (x.f3 = y.f3) && eqL zcN x.f4 y.f4)))
theorem z8v (x y : S50) (h : zbw x y = true) : x = y := by
 cases x; cases y
 simp only [zbw, Bool.and_eq_true, decide_eq_true_eq] at h
 obtain ⟨h1, h2, h3, rfl, h5⟩ := h
 rw [zcO h1, z3P z6L _ _ h2, z3P z6L _ _ h3, z3P zby _ _ h5]
def tyR : xx := ⟨1, []⟩
def zdX : S61 := ⟨0, false, [], []⟩
def z9c : S63 := ⟨8, 1, 0, 0, zdX⟩
def zbI : S63 := ⟨26, 1, 0, 0, zdX⟩
def sqR : S50 := ⟨⟨#[102]⟩, [tyR], [tyR], 2, [z9c, zbI]⟩
def zao (l : List S50) : Bool := eqL zbw l [sqR]
theorem z8A {l : List S50} (h : zao l = true) : l = [sqR] := z3P z8v _ _ h
def z6v : ByteArray := ⟨#[114, 111, 117, 116, 105, 110, 101, 32, 102, 40, 114, 101, 97, 108, 41, 32, 40, 114, 101, 97, 108, 41, 32, 50, 10, 32, 32, 109, 117, 108, 32, 49, 32, 48, 32, 48, 10, 32, 32, 114, 101, 116, 117, 114, 110, 32, 49, 10]⟩
end Go.Proofs.QP
namespace Go.Proofs.QP
def yj : List Int := [2, 2, 102, 2, 2, 2, 0, 2, 0, 4, 4, 16, 2, 0, 0, 52, 2, 132, 3]
def z1S.f (l : List S50) : Option (ByteArray × Int) := if zao l = true then some (z6v, 0) else none
end Go.Proofs.QP

namespace Go.Proofs.QP
open Go.RowKit Go.Proofs.PW Go.Proofs.PL Go.Proofs.PM Go.Proofs.FX
def strconv_Itoa.f (n : Int) : Option ByteArray := if 0 ≤ n ∧ n < 100 then some ⟨(Lib.decDigits n.toNat).toArray⟩ else none
theorem strconv_Itoa.calls (a0 : Int) (r : ByteArray) (w : World) (h : strconv_Itoa.f a0 = some r) :
 Calls Tryz.prog 48 #[.int .i64 a0] w fun e w' => e = .returned (.string r) ∧ zj w w' := by
 unfold strconv_Itoa.f at h
 by_cases hn : 0 ≤ a0 ∧ a0 < 100
 ·rw [if_pos hn] at h
  obtain rfl := Option.some.inj h
  obtain ⟨i, rfl⟩ : ∃ i : Nat, a0 = (i : Int) := ⟨a0.toNat, by omega⟩
  refine (Tryz.strconv_Itoa_small i (by omega) w).mono ?_
  rintro e w' ⟨rfl, rfl⟩
  exact ⟨rfl, zj.refl _⟩
 ·rw [if_neg hn] at h
  cases h
section
section
attribute [local go_sem] yd zV
attribute [local go_sem] xf xg xD xE yI yJ xl xm
def xr.f (a0 : Int) : Option (Bool) := if a0 < 1 then (some true) else (some (decide (a0 > 8)))
theorem xr.calls (a0 : Int) (r : Bool) (w : World) (h : xr.f a0 = some r) :
 Calls Tryz.prog 174 #[.int .i64 a0] w fun e w' => e = .returned (.bool r) ∧ zj w w' := by
 have H := h
 unfold xr.f at H
 clear h
 by_cases c2 : a0 < 1
 ·rw [if_pos c2] at H
  have c2b0 := dT c2
  clear c2
  obtain rfl := sI H
  go_enter Tryz.func174, Tryz.ntmps174
  go_wp2
  go_ret
  exact ⟨by first | rfl | (simp; done) | (simp [*]; done), by repeat (first | exact zj.refl _ | apply zj.step)⟩
 ·rw [if_neg c2] at H
  have c2b0 := dF c2
  clear c2
  obtain rfl := sI H
  go_enter Tryz.func174, Tryz.ntmps174
  go_wp2
  go_ret
  exact ⟨by first | rfl | (simp; done) | (simp [*]; done), by repeat (first | exact zj.refl _ | apply zj.step)⟩
def zk.l0 : Nat → List Int → Int → Int → Option (Int)
 | 0, _, _, _ => none
 | k + 1, x0, x7, x8 => if x8 < x7 then (if 0 ≤ x8 then (if x8 < (x0.length : Int) then ((xr.f (rd x0 x8)).bind fun t382 => (if t382 = true then (some x8) else (zk.l0 k x0 x7 (wrap64 (x8 + 1))))) else (none)) else (none)) else (some (-1))
def zk.f (k : Nat) (l0 : List Int)  : Option (Int) := zk.l0 k l0 (l0.length : Int) 0
theorem zk.calls (k : Nat) (A0 : Option Addr) (c0 : Nat) (l0 : List Int)  (r : Int) (w : World) (hr0 : Kd.C (Kd.int .i64) w A0 l0.length l0) (hc0 : l0.length ≤ c0) (h : zk.f k l0 = some r) :
 Calls Tryz.prog 210 #[.slice A0 l0.length c0, .func (.func 174) #[] #[]] w fun e w' => e = .returned (.int .i64 r) ∧ zj w w' := by
 have HR0 := aS hr0
 have HC0 := aS hc0
 clear hr0 hc0
 have H := h
 unfold zk.f at H
 clear h
 have H' := aS H
 clear H
 go_enter Tryz.func210, Tryz.ntmps210
 go_wp2
 go_loopg [8] k (fun kq v8 w' => ∃ (x8_1 : Int), v8 = .int .i64 x8_1 ∧ Aside0 (zk.l0 kq l0 (l0.length : Int) x8_1 = some r) ∧ Aside0 (kq ≤ k) ∧ zj w w')
 case atStart => exact ⟨(0), rs, H', ⟨Nat.le_refl _⟩, by repeat (first | exact zj.refl _ | apply zj.step)⟩
 case round =>
  clear H'
  obtain ⟨x8_1, rfl, HA, HK1, ⟨m1, rfl⟩⟩ := hrel
  cases gk with
  | zero => exact absurd HA.out (by simp [zk.l0])
  | succ k1 =>
   have H := HA.out
   clear HA
   simp only [zk.l0] at H
   by_cases c3 : x8_1 < (l0.length : Int); rotate_left
   ·rw [if_neg c3] at H
    have c3b0 := dF c3
    clear c3
    obtain rfl := sI H
    go_wp2
    go_ret
    exact ⟨by first | rfl | (simp; done) | (simp [*]; done), by repeat (first | exact zj.refl _ | apply zj.step)⟩
   rw [if_pos c3] at H
   have c3b0 := dT c3
   clear c3
   replace H := iD_ H
   obtain ⟨c4b0, H⟩ := H
   replace H := iD_ H
   obtain ⟨c5b0, H⟩ := H
   replace H := bA H
   obtain ⟨t382, A6, H⟩ := H
   by_cases c7 : t382 = true
   ·subst c7
    rw [if_pos rfl] at H
    obtain rfl := sI H
    obtain ⟨ad381, e381, hx381_0⟩ := Kd.zT HR0.out x8_1 oa oa
    cases e381
    have p381 : (0 ≤ (x8_1 : Int)) = True := tO
    have q381 : (x8_1 < (l0.length : Int)) = True := tO
    go_wp2_with (first | (go_at_call 174; (with_reducible refine (xr.calls (rd l0 x8_1) true _ A6.out).mono ?_); rintro e w' ⟨rfl, ⟨nd, rfl⟩⟩))
    go_ret
    exact ⟨by first | rfl | (simp; done) | (simp [*]; done), by repeat (first | exact zj.refl _ | apply zj.step)⟩
   ·replace c7 := Bool.eq_false_iff.mpr c7
    subst c7
    rw [if_neg iN] at H
    have H' := aS H
    clear H
    obtain ⟨ad381, e381, hx381_0⟩ := Kd.zT HR0.out x8_1 oa oa
    cases e381
    have p381 : (0 ≤ (x8_1 : Int)) = True := tO
    have q381 : (x8_1 < (l0.length : Int)) = True := tO
    go_wp2_with (first | (go_at_call 174; (with_reducible refine (xr.calls (rd l0 x8_1) false _ A6.out).mono ?_); rintro e w' ⟨rfl, ⟨nd, rfl⟩⟩))
    go_roundg k1
    case measure => have := HK1.out; omega
    case rel => exact ⟨(wrap64 (x8_1 + 1)), rs, H', ⟨by have := HK1.out; omega⟩, by repeat (first | exact zj.refl _ | apply zj.step)⟩
def zN.f (k : Nat) (l0 : List Int)  : Option (Bool) := (zk.f k l0).bind fun t383 => (some (decide (t383 ≥ 0)))
theorem zN.calls (k : Nat) (A0 : Option Addr) (c0 : Nat) (l0 : List Int)  (r : Bool) (w : World) (hr0 : Kd.C (Kd.int .i64) w A0 l0.length l0) (hc0 : l0.length ≤ c0) (h : zN.f k l0 = some r) :
 Calls Tryz.prog 173 #[.slice A0 l0.length c0, .func (.func 174) #[] #[]] w fun e w' => e = .returned (.bool r) ∧ zj w w' := by
 have HR0 := aS hr0
 have HC0 := aS hc0
 clear hr0 hc0
 have H := h
 unfold zN.f at H
 clear h
 replace H := bA H
 obtain ⟨t383, A3, H⟩ := H
 obtain rfl := sI H
 go_enter Tryz.func173, Tryz.ntmps173
 go_wp2_with (first | ((with_reducible refine zi (f := 210) rfl ?_); refine gl 7 Tryz.func210 #[.slice A0 l0.length c0, .func (.func 174) #[] #[]] ?_; (with_reducible refine (zk.calls k _ _ l0  t383 _ ?side1 ?side2 A3.out).mono ?_); (case side1 => exact cA HR0.out); (case side2 => exact HC0.out); rintro e w' ⟨rfl, ⟨nd, rfl⟩⟩; refine ⟨_, rfl, ?_⟩))
 go_ret
 exact ⟨by first | rfl | (simp; done) | (simp [*]; done), by repeat (first | exact zj.refl _ | apply zj.step)⟩
def yn.j0 : Nat → Bool → Int → Bool → Int → List Int → Option (Bool)
 | 0, _, _, _, _, _ => none
 | k + 1, x3, x8, x9, x385000, x385001 => if x9 = true then (if x3 = true then (some false) else (some (decide ((x385001.length : Int) ≤ 3)))) else (if x8 = 3 then (if x3 = true then (some false) else (some ((x385001.length : Int) == 1))) else (some false))
def yn.f (k : Nat) (a0_0 : Int) (l0_1 : List Int) : Option (Bool) := (zN.f k l0_1).bind fun t385 => (if a0_0 = 1 then (yn.j0 k t385 a0_0 (a0_0 == 1) a0_0 l0_1) else (yn.j0 k t385 a0_0 (a0_0 == 2) a0_0 l0_1))
theorem yn.calls (k : Nat) (a0_0 : Int) (A0_1 : Option Addr) (c0_1 : Nat) (l0_1 : List Int) (r : Bool) (w : World) (hr0_1 : Kd.C (Kd.int .i64) w A0_1 l0_1.length l0_1) (hc0_1 : l0_1.length ≤ c0_1) (h : yn.f k a0_0 l0_1 = some r) :
 Calls Tryz.prog 139 #[.agg #[.int .i64 a0_0, .slice A0_1 l0_1.length c0_1]] w fun e w' => e = .returned (.bool r) ∧ Below w.heap.size w w' := by
 have hu115 := Tryz.underlying115
 have HR0_1 := aS hr0_1
 have HC0_1 := aS hc0_1
 clear hr0_1 hc0_1
 have HB := hR w
 have H := h
 unfold yn.f at H
 clear h
 replace H := bA H
 obtain ⟨t385, A2, H⟩ := H
 have HC3 := aS H
 clear H
 go_enter Tryz.func139, Tryz.ntmps139
 go_upto_if 9 with (first | ((with_reducible refine zq (N := 1) rfl ?_); (try (refine yq (by rfl) ?_; dsimp only)); refine bx (N := 1) (cs := #[.int .i64 a0_0, .slice A0_1 l0_1.length c0_1]) (t := 115) ?_; intro gb384 hg w4 hbox hb; have BK384 := aS (hbox); have GW384 := (gz hg HB : Aside0 (w.heap.size ≤ gb384)); have GE384 := (gz hg HB : Aside0 (w.heap.size ≤ gb384)); replace HB := hB_ HB hb; clear hb hbox hg; obtain ⟨_, _, _, _⟩ := cf2 BK384.out) | ((with_reducible refine zi (f := 173) rfl ?_); refine gl 6 Tryz.func173 #[.slice A0_1 l0_1.length c0_1, .func (.func 174) #[] #[]] ?_; (with_reducible refine (zN.calls k _ _ l0_1  t385 _ ?side1 ?side2 A2.out).mono ?_); (case side1 => exact cb HR0_1 HB); (case side2 => exact HC0_1.out); rintro e w' ⟨rfl, ⟨nd, rfl⟩⟩; refine ⟨_, rfl, ?_⟩))
 (try simp only [Act.put, List.setIfInBounds_toArray, List.set_cons_zero, List.set_cons_succ])
 go_cut [9] (fun v9 wc => ∃ (kq : Nat) (x9_2 : Bool), v9 = .bool x9_2 ∧ Aside0 (yn.j0 kq t385 a0_0 x9_2 a0_0 l0_1 = some r) ∧ Aside0 (kq ≤ k) ∧ Aside0 (wc.heap[gb384]? = some (.cells #[.int .i64 a0_0, (.slice A0_1 l0_1.length c0_1)] 115 (0, 0))) ∧ Aside0 (Below w.heap.size w wc))
 case first =>
  have H := HC3.out
  clear HC3
  by_cases c6 : a0_0 = 1
  ·rw [if_pos c6] at H
   have c6b0 := bT c6
   have c6b1 := nF c6
   clear c6
   (first | rw [c6b0] | (simp only [yh, yQ]; rw [c6b0]) | skip)
   have H' := aS H
   clear H
   go_wp2
   go_meet
   case rel => exact ⟨_, ((a0_0 == 1)), rs, H', ⟨by first | omega | exact Nat.le_refl _⟩, ⟨bk BK384⟩, ⟨bl HB⟩⟩
  ·rw [if_neg c6] at H
   have c6b0 := bF c6
   have c6b1 := nT c6
   (first | rw [c6b0] | (simp only [yh, yQ]; rw [c6b0]) | skip)
   have H' := aS H
   clear H
   go_wp2
   go_meet
   case rel => exact ⟨_, ((a0_0 == 2)), rs, H', ⟨by first | omega | exact Nat.le_refl _⟩, ⟨bk BK384⟩, ⟨bl HB⟩⟩
 case rest =>
  clear HC3
  obtain ⟨kq, x9_2, rfl, HA, HJ2, BK384, HB⟩ := hcut
  cases kq with
  | zero => exact absurd HA.out (by simp [yn.j0])
  | succ kj2 =>
   have H := HA.out
   clear HA
   simp only [yn.j0] at H
   by_cases c7 : x9_2 = true
   ·subst c7
    rw [if_pos rfl] at H
    by_cases c8 : t385 = true
    ·subst c8
     rw [if_pos rfl] at H
     obtain rfl := sI H
     go_wp2
     go_ret
     exact ⟨re, bl HB⟩
    ·replace c8 := Bool.eq_false_iff.mpr c8
     subst c8
     rw [if_neg iN] at H
     obtain rfl := sI H
     obtain ⟨_, _, _, _⟩ := cf2 BK384.out
     go_wp2
     go_ret
     exact ⟨re, bl HB⟩
   replace c7 := Bool.eq_false_iff.mpr c7
   subst c7
   rw [if_neg iN] at H
   by_cases c10 : a0_0 = 3; rotate_left
   ·rw [if_neg c10] at H
    have c10b0 := bF c10
    have c10b1 := nT c10
    obtain rfl := sI H
    go_wp2
    go_ret
    exact ⟨re, bl HB⟩
   rw [if_pos c10] at H
   have c10b0 := bT c10
   have c10b1 := nF c10
   clear c10
   by_cases c11 : t385 = true
   ·subst c11
    rw [if_pos rfl] at H
    obtain rfl := sI H
    go_wp2
    go_ret
    exact ⟨re, bl HB⟩
   ·replace c11 := Bool.eq_false_iff.mpr c11
    subst c11
    rw [if_neg iN] at H
    obtain rfl := sI H
    obtain ⟨_, _, _, _⟩ := cf2 BK384.out
    go_wp2
    go_ret
    exact ⟨re, bl HB⟩
def z01.l0 : Nat → ByteArray → List Int → Int → Int → Option (ByteArray × Int)
 | 0, _, _, _, _ => none
 | k + 1, x4, x15, x16, x17 => if x17 < x16 then (if 0 ≤ x17 then (if x17 < (x15.length : Int) then ((strconv_Itoa.f (rd x15 x17)).bind fun t389 => (if 1 + t389.size ≤ 9223372036854775807 then (if ((⟨#[91]⟩ : ByteArray) ++ t389).size + 1 ≤ 9223372036854775807 then (if x4.size + (((⟨#[91]⟩ : ByteArray) ++ t389) ++ (⟨#[93]⟩ : ByteArray)).size ≤ 9223372036854775807 then (z01.l0 k (x4 ++ (((⟨#[91]⟩ : ByteArray) ++ t389) ++ (⟨#[93]⟩ : ByteArray))) x15 x16 (wrap64 (x17 + 1))) else (none)) else (none)) else (none))) else (none)) else (none)) else (some (x4, 0))
def z01.f (k : Nat) (a0_0 : Int) (l0_1 : List Int) : Option (ByteArray × Int) := (yn.f k a0_0 l0_1).bind fun t387 => (if t387 = true then (if 0 ≤ a0_0 then (if a0_0 < 4 then (z01.l0 k (z1X ByteArray.empty z7M a0_0) l0_1 (l0_1.length : Int) 0) else (none)) else (none)) else (some ((⟨#[]⟩ : ByteArray), 5)))
theorem z01.calls (k : Nat) (a0_0 : Int) (A0_1 : Option Addr) (c0_1 : Nat) (l0_1 : List Int) (r1 : ByteArray) (r2 : Int) (w : World) (hG : GW w) (hr0_1 : Kd.C (Kd.int .i64) w A0_1 l0_1.length l0_1) (hc0_1 : l0_1.length ≤ c0_1) (h : z01.f k a0_0 l0_1 = some (r1, r2)) :
 Calls Tryz.prog 104 #[.agg #[.int .i64 a0_0, .slice A0_1 l0_1.length c0_1]] w fun e w' => e = .returned (.tuple #[.string r1, .int .i64 r2]) ∧ Below w.heap.size w w' := by
 have hu115 := Tryz.underlying115
 have HR0_1 := aS hr0_1
 have HC0_1 := aS hc0_1
 clear hr0_1 hc0_1
 have HG := aS hG
 clear hG
 have HB := hR w
 have H := h
 unfold z01.f at H
 clear h
 replace H := bA H
 obtain ⟨t387, A2, H⟩ := H
 by_cases c3 : t387 = true; rotate_left
 ·replace c3 := Bool.eq_false_iff.mpr c3
  subst c3
  rw [if_neg iN] at H
  simp only [Option.some.injEq, Prod.mk.injEq] at H
  obtain ⟨rfl, rfl⟩ := H
  go_enter Tryz.func104, Tryz.ntmps104
  go_wp2_with (first | ((with_reducible refine zq (N := 1) rfl ?_); refine bx (N := 1) (cs := #[.int .i64 a0_0, .slice A0_1 l0_1.length c0_1]) (t := 115) ?_; intro gb386 hg w18 hbox hb; have BK386 := aS (hbox); have GW386 := (gz hg HB : Aside0 (w.heap.size ≤ gb386)); have GE386 := (gz hg HB : Aside0 (w.heap.size ≤ gb386)); replace HB := hB_ HB hb; clear hb hbox hg; obtain ⟨_, _, _, _⟩ := cf2 BK386.out) | ((with_reducible refine zi (f := 139) rfl ?_); refine gl 8 Tryz.func139 #[.agg #[.int .i64 a0_0, .slice A0_1 l0_1.length c0_1]] ?_; (with_reducible refine (yn.calls k a0_0 _ _ l0_1 false _ ?side1 ?side2 A2.out).mono ?_); (case side1 => exact cb HR0_1 HB); (case side2 => exact HC0_1.out); rintro e w20 ⟨rfl, hb⟩; refine ⟨_, rfl, ?_⟩; replace BK386 := bb BK386 hb; replace HB := hB_ HB hb; clear hb))
  go_ret2
  exact ⟨re, bl HB⟩
 subst c3
 rw [if_pos rfl] at H
 replace H := iD_ H
 obtain ⟨c4b0, H⟩ := H
 replace H := iD_ H
 obtain ⟨c5b0, H⟩ := H
 have H' := aS H
 clear H
 go_enter Tryz.func104, Tryz.ntmps104
 go_wp2_with (first | ((with_reducible refine zq (N := 1) rfl ?_); refine bx (N := 1) (cs := #[.int .i64 a0_0, .slice A0_1 l0_1.length c0_1]) (t := 115) ?_; intro gb386 hg w6 hbox hb; have BK386 := aS (hbox); have GW386 := (gz hg HB : Aside0 (w.heap.size ≤ gb386)); have GE386 := (gz hg HB : Aside0 (w.heap.size ≤ gb386)); replace HB := hB_ HB hb; clear hb hbox hg; obtain ⟨_, _, _, _⟩ := cf2 BK386.out) | ((with_reducible refine zi (f := 139) rfl ?_); refine gl 8 Tryz.func139 #[.agg #[.int .i64 a0_0, .slice A0_1 l0_1.length c0_1]] ?_; (with_reducible refine (yn.calls k a0_0 _ _ l0_1 true _ ?side1 ?side2 A2.out).mono ?_); (case side1 => exact cb HR0_1 HB); (case side2 => exact HC0_1.out); rintro e w8 ⟨rfl, hb⟩; refine ⟨_, rfl, ?_⟩; replace BK386 := bb BK386 hb; replace HB := hB_ HB hb; clear hb; obtain ⟨_, _, _, _⟩ := cf2 BK386.out; have pgt10 : 0 ≤ (a0_0 : Int) := oa; have qgt10 : (a0_0 : Int) < 4 := oa; have hgt10 := zdz (GW.below HG.out (HB.out)) pgt10 qgt10; replace pgt10 := eq_true pgt10; replace qgt10 := eq_true qgt10))
 go_loopg [4, 17] k (fun kq v4 v17 w' => ∃ (x4_1 : ByteArray) (x17_1 : Int), v4 = .string x4_1 ∧ v17 = .int .i64 x17_1 ∧ Aside0 (z01.l0 kq x4_1 l0_1 (l0_1.length : Int) x17_1 = some (r1, r2)) ∧ Aside0 (kq ≤ k) ∧ Aside0 (w'.heap[gb386]? = some (.cells #[.int .i64 a0_0, (.slice A0_1 l0_1.length c0_1)] 115 (0, 0))) ∧ Aside0 (Below w.heap.size w w'))
 case atStart => exact ⟨(z1X ByteArray.empty z7M a0_0), (0), rs, rs, H', ⟨Nat.le_refl _⟩, ⟨bk BK386⟩, ⟨bl HB⟩⟩
 case round =>
  clear H'
  obtain ⟨x4_1, x17_1, rfl, rfl, HA, HK1, BK386, HB⟩ := hrel
  cases gk with
  | zero => exact absurd HA.out (by simp [z01.l0])
  | succ k1 =>
   have H := HA.out
   clear HA
   simp only [z01.l0] at H
   by_cases c11 : x17_1 < (l0_1.length : Int); rotate_left
   ·rw [if_neg c11] at H
    have c11b0 := dF c11
    clear c11
    simp only [Option.some.injEq, Prod.mk.injEq] at H
    obtain ⟨rfl, rfl⟩ := H
    go_wp2
    go_ret2
    exact ⟨re, bl HB⟩
   rw [if_pos c11] at H
   have c11b0 := dT c11
   clear c11
   replace H := iD_ H
   obtain ⟨c12b0, H⟩ := H
   replace H := iD_ H
   obtain ⟨c13b0, H⟩ := H
   replace H := bA H
   obtain ⟨t389, A14, H⟩ := H
   replace H := iN_ H
   obtain ⟨c15, H⟩ := H
   have c15b0 := eq_true c15
   have c15b1 := dT c15
   try have c15b2 : (9223372036854775807 < 1 + t389.size) = False := eq_false (Nat.not_lt.2 c15)
   replace H := iN_ H
   obtain ⟨c16, H⟩ := H
   have c16b0 := eq_true c16
   have c16b1 := dT c16
   try have c16b2 : (9223372036854775807 < ((⟨#[91]⟩ : ByteArray) ++ t389).size + 1) = False := eq_false (Nat.not_lt.2 c16)
   have c16b3 : (9223372036854775807 < 1 + t389.size + 1) = False := eq_false (by have h_ := c16; simp only [ByteArray.size_append, show (⟨#[91]⟩ : ByteArray).size = 1 from rfl] at h_; omega)
   replace H := iN_ H
   obtain ⟨c17, H⟩ := H
   have c17b0 := eq_true c17
   have c17b1 := dT c17
   try have c17b2 : (9223372036854775807 < x4_1.size + (((⟨#[91]⟩ : ByteArray) ++ t389) ++ (⟨#[93]⟩ : ByteArray)).size) = False := eq_false (Nat.not_lt.2 c17)
   have c17b3 : (9223372036854775807 < x4_1.size + (1 + t389.size + 1)) = False := eq_false (by have h_ := c17; simp only [ByteArray.size_append, show (⟨#[91]⟩ : ByteArray).size = 1 from rfl, show (⟨#[93]⟩ : ByteArray).size = 1 from rfl] at h_; omega)
   have H' := aS H
   clear H
   obtain ⟨ad388, e388, hx388_0⟩ := Kd.zT HR0_1.out x17_1 oa oa
   cases e388
   replace hx388_0 := xb HB hx388_0
   have p388 : (0 ≤ (x17_1 : Int)) = True := tO
   have q388 : (x17_1 < (l0_1.length : Int)) = True := tO
   go_wp2_with (first | ((with_reducible refine zi (f := 48) rfl ?_); refine gl 23 Tryz.func48 #[.int .i64 (rd l0_1 x17_1)] ?_; (with_reducible refine (strconv_Itoa.calls (rd l0_1 x17_1) t389 _ A14.out).mono ?_); rintro e w' ⟨rfl, ⟨nd, rfl⟩⟩; refine ⟨_, rfl, ?_⟩))
   go_roundg k1
   case measure => have := HK1.out; omega
   case rel => exact ⟨(x4_1 ++ (((⟨#[91]⟩ : ByteArray) ++ t389) ++ (⟨#[93]⟩ : ByteArray))), (wrap64 (x17_1 + 1)), rs, rs, H', ⟨by have := HK1.out; omega⟩, ⟨bk BK386⟩, ⟨bl HB⟩⟩
end
end
theorem z8q {l : List Int} (hl : l.length ≤ 9223372036854775807) : ∀ (m j : Nat), j + m = l.length → (∀ i < j, z1K (rd l (i : Int))) → ∃ r : Int, Ev (fun k => zk.l0 k l (l.length : Int) (j : Int)) r ∧ (0 ≤ r ↔ ¬ ∀ i < l.length, z1K (rd l (i : Int)))
 | 0, j, hj, h => by
  refine ⟨-1, Ev.step (f := fun _ => some (-1)) (fun k => ?_) (Ev.now _), ⟨fun h => absurd h (by decide), fun h2 => absurd (fun i hi => h i (by omega)) h2⟩⟩
  simp only [zk.l0]
  rw [if_neg (by omega)]
 | m + 1, j, hj, h => by
  have e1 : wrap64 ((j : Int) + 1) = ((j + 1 : Nat) : Int) := by unfold wrap64; omega
  by_cases hd : z1K (rd l (j : Int))
  ·obtain ⟨r, hr, hi⟩ := z8q hl m (j + 1) (by omega) (fun i hi => (Nat.lt_succ_iff_lt_or_eq.1 hi).elim (h i) (fun e => by rw [e]; exact hd))
   refine ⟨r, Ev.step (fun k => ?_) hr, hi⟩
   have hf : xr.f (rd l (j : Int)) = some false := by
    unfold xr.f
    rw [if_neg (by have := hd.1; omega), dF (by have := hd.2; omega)]
   simp only [zk.l0, hf, Option.bind_some, e1]
   rw [if_pos (by omega), if_pos (by omega), if_pos (by omega), if_neg (by decide)]
  ·refine ⟨(j : Int), Ev.step (f := fun _ => some (j : Int)) (fun k => ?_) (Ev.now _), ⟨fun _ h2 => hd (h2 j (by omega)), fun _ => by omega⟩⟩
   have hf : xr.f (rd l (j : Int)) = some true := by
    unfold xr.f
    by_cases h1 : rd l (j : Int) < 1
    ·rw [if_pos h1]
    ·rw [if_neg h1, dT (by unfold z1K at hd; omega)]
   simp only [zk.l0, hf, Option.bind_some]
   rw [if_pos (by omega), if_pos (by omega), if_pos (by omega), if_pos trivial]
theorem z81 (k0 : Int) {l : List Int} (hl : l.length ≤ 9223372036854775807) : Ev (fun k => yn.f k k0 l) (z0d k0 l) := by
 obtain ⟨r, hr, hi⟩ := z8q hl l.length 0 (Nat.zero_add _) (fun i hi => absurd hi (Nat.not_lt_zero _))
 obtain ⟨bad, hb⟩ : ∃ bad, (!decide (∀ i < l.length, z1K (rd l (i : Int)))) = bad := ⟨_, rfl⟩
 have hrb : decide (0 ≤ r) = bad := by
  rw [← hb]
  by_cases h : ∀ i < l.length, z1K (rd l (i : Int))
  ·rw [dT h, dF (fun h2 => hi.1 h2 h)]; rfl
  ·rw [dF h, dT (hi.2 h)]; rfl
 have hR : z0d k0 l = (!bad && (if k0 = 3 then decide (l.length = 1) else decide (k0 = 1 ∨ k0 = 2) && decide (l.length ≤ 3))) := by
  unfold z0d
  rw [← hb, Bool.not_not]
 have hC : Ev (fun k => zN.f k l) bad := by
  refine Ev.bind (g := fun k => zk.f k l) hr ?_
  refine Ev.congr (f := fun _ => some bad) (fun k => ?_) (Ev.now _)
  congr 1
 refine Ev.bind (g := fun k => zN.f k l) hC ?_
 have e3 : decide ((l.length : Int) ≤ 3) = decide (l.length ≤ 3) := decide_eq_decide.2 (by omega)
 have e1 : ((l.length : Int) == 1) = decide (l.length = 1) := by
  rw [Bool.eq_iff_iff, beq_iff_eq, decide_eq_true_eq]; omega
 rw [hR]
 clear hR hC hb hrb hr hi
 by_cases h1 : k0 = 1
 ·subst h1
  refine Ev.congr (fun k => if_pos rfl) (Ev.step (f := fun _ => some _) (fun k => ?_) (Ev.now _))
  cases bad <;> simp [yn.j0, e3]
 ·refine Ev.congr (fun k => if_neg h1) (Ev.step (f := fun _ => some _) (fun k => ?_) (Ev.now _))
  by_cases h2 : k0 = 2
  ·subst h2
   cases bad <;> simp [yn.j0, e3]
  ·by_cases h3 : k0 = 3
   ·subst h3
    cases bad <;> simp [yn.j0, e1] <;> omega
   ·cases bad <;> simp [yn.j0, h1, h2, h3]
theorem z6m (k : Int) (A : Option Addr) (c : Nat) (l : List Int) (w : World) (hr : Kd.C (Kd.int .i64) w A l.length l) (hc : l.length ≤ c) :
 Calls Tryz.prog 92 #[.agg #[.int .i64 k, .slice A l.length c]] w fun e w' => e = .returned (.bool (z17 k l)) ∧ Below w.heap.size w w' := by
 have hu115 := Tryz.underlying115
 have HB := hR w
 obtain ⟨n, hn⟩ := (z81 k (Kd.z2k hr)).rounds
 have HI := aS (fun W hb => yn.calls n k A c l (z0d k l) W (Kd.zK hr hb) hc hn)
 obtain ⟨t, ht⟩ : ∃ t, z0d k l = t := ⟨_, rfl⟩
 obtain ⟨rr, hrr⟩ : ∃ rr, z17 k l = rr := ⟨_, rfl⟩
 have HA : Aside0 (rr = (t && !decide (k = 3))) := ⟨by rw [← hrr, ← ht]; rfl⟩
 rw [hrr]
 rw [ht] at HI
 clear hr hc hn hrr ht
 have q : (k = 3) = True ∧ (k == 3) = true ∨ (k = 3) = False ∧ (k == 3) = false := by
  by_cases h : k = 3
  ·exact .inl ⟨eq_true h, beq_iff_eq.2 h⟩
  ·exact .inr ⟨eq_false h, beq_eq_false_iff_ne.2 h⟩
 rcases q with ⟨q1, q2⟩ | ⟨q1, q2⟩ <;> cases t
 all_goals go_enter Tryz.func92, Tryz.ntmps92
 all_goals go_wp2_with (first | ((with_reducible refine zq (N := 1) rfl ?_); refine bx (N := 1) (cs := #[.int .i64 k, .slice A l.length c]) (t := 115) ?_; intro gi hg w1 hbox hb; have BKi := aS hbox; replace HB := aS (bs_ HB.out hb); obtain ⟨x0, x1⟩ := z2y BKi.out; clear hg hb hbox) | (go_at_call 139; (with_reducible refine (HI.out _ HB.out).mono ?_); rintro e w2 ⟨rfl, hb⟩; replace HB := aS (bs_ HB.out hb); clear hb))
 all_goals refine bodyPost_ret (v := .bool rr) (by rw [HA.out]; simp [results, Tryz.results92, go_sem, q1]) rfl ⟨rfl, by first | exact HB.out | exact zd HB.out _⟩
theorem z7Q (k : Int) (A : Option Addr) (c : Nat) (l : List Int) (w : World) (hr : Kd.C (Kd.int .i64) w A l.length l) (hc : l.length ≤ c) :
 Calls Tryz.prog 91 #[.agg #[.int .i64 k, .slice A l.length c]] w fun e w' => e = .returned (.bool (!z17 k l)) ∧ Below w.heap.size w w' := by
 have hu115 := Tryz.underlying115
 have HI := aS (fun W hb => z6m k A c l W (Kd.zK hr hb) hc)
 generalize z17 k l = t at HI ⊢
 clear hr hc
 go_enter Tryz.func91, Tryz.ntmps91
 go_wp2_with (go_at_call 92; (with_reducible refine (HI.out _ (zl (Below.refl _ _) _)).mono ?_); rintro e w1 ⟨rfl, hb⟩)
 refine bodyPost_ret (by simp [results, Tryz.results91, go_sem]) rfl ⟨rfl, bs_ (zl (Below.refl _ _) _) hb⟩
theorem z7G (c : Nat) (A : Option Addr) (ts : List xx) (F : Value) (hF : F = .func (Fn.func 91) #[] #[]) (w : World) (hr0 : Kd.C xC w A ts.length ts) :
 Calls Tryz.prog 137 #[.slice A ts.length c, F] w fun e w' => ∃ i : Int, e = .returned (.int .i64 i) ∧ (0 ≤ i ↔ ¬ ∀ j < ts.length, z17 (yg ts (j : Int)).f0 (yg ts (j : Int)).f1 = true) ∧ Below w.heap.size w w' := by
 subst hF
 have hu115 := Tryz.underlying115
 have HR0 := aS hr0
 have HM := aS (Kd.z2k hr0)
 clear hr0
 go_enter Tryz.func137, Tryz.ntmps137
 go_wp2
 go_loopg [8] (ts.length + 1) (fun kq v8 w' => ∃ j : Nat, v8 = .int .i64 (j : Int) ∧ Aside0 (kq + j = ts.length + 1 ∧ j ≤ ts.length ∧ ∀ i < j, z17 (yg ts (i : Int)).f0 (yg ts (i : Int)).f1 = true) ∧ Aside0 (Below w.heap.size w w'))
 case atStart => exact ⟨0, rfl, ⟨rfl, Nat.zero_le _, fun i hi => absurd hi (Nat.not_lt_zero _)⟩, ⟨Below.refl _ _⟩⟩
 case round =>
  obtain ⟨j, rfl, HJ, HW⟩ := hrel
  by_cases hj : j < ts.length; rotate_left
  ·have q1 : decide ((j : Int) < (ts.length : Int)) = false := dF (by omega)
   have q2 := dF hj
   have q3 : (j < ts.length) = False := eq_false hj
   have q5 : ((j : Int) < (ts.length : Int)) = False := eq_false (by omega)
   have HA : Aside0 (∀ j < ts.length, z17 (yg ts (j : Int)).f0 (yg ts (j : Int)).f1 = true) := ⟨fun i hi => HJ.out.2.2 i (by omega)⟩
   clear hj HJ
   go_wp2
   refine bodyPost_ret (v := .int .i64 (-1)) (by simp [results, Tryz.results137, go_sem]) rfl ⟨-1, rfl, ⟨fun h => absurd h (by decide), fun h => absurd HA.out h⟩, HW.out⟩
  have q1 : decide ((j : Int) < (ts.length : Int)) = true := dT (by omega)
  have q2 := dT hj
  have q3 : (j < ts.length) = True := eq_true hj
  have q4 : (0 ≤ (j : Int)) = True := eq_true (by omega)
  have q5 : ((j : Int) < (ts.length : Int)) = True := eq_true (by omega)
  have q7 : wrap64 ((j : Int) + 1) = ((j + 1 : Nat) : Int) := by have := HM.out; unfold wrap64; omega
  obtain ⟨ad, A1, c1, rfl, y0, y1, l1, g1⟩ := z2b (Kd.zK HR0.out HW.out) (j : Int) (by omega) (by omega)
  rw [Int.toNat_natCast] at y0 y1
  have HJ2 := aS hj
  clear hj
  obtain ⟨x, hx⟩ : ∃ x, yg ts (j : Int) = x := ⟨_, rfl⟩
  have HX := aS hx
  rw [hx] at y0 y1 l1 g1
  have HL := aS (fun W (hb : Below wr.heap.size wr W) => z7Q x.f0 A1 c1 x.f1 W (Kd.zK g1 hb) l1)
  obtain ⟨t, ht⟩ : ∃ t, z17 x.f0 x.f1 = t := ⟨_, rfl⟩
  have HT := aS ht
  rw [ht] at HL
  clear hx l1 g1 ht
  cases t with
  | false =>
   go_wp2_with (go_at_call 91; (with_reducible refine (HL.out _ (by first | exact Below.refl _ _ | exact zd (Below.refl _ _) _)).mono ?_); rintro e w4 ⟨rfl, hb⟩; replace HW := aS (bs_ HW.out hb); clear hb)
   refine bodyPost_ret (v := .int .i64 (j : Int)) (by simp [results, Tryz.results137, go_sem]) rfl ⟨(j : Int), rfl, ⟨fun _ h => (by have := h j HJ2.out; rw [HX.out, HT.out] at this; cases this), fun _ => by omega⟩, HW.out⟩
  | true =>
   go_wp2_with (go_at_call 91; (with_reducible refine (HL.out _ (by first | exact Below.refl _ _ | exact zd (Below.refl _ _) _)).mono ?_); rintro e w4 ⟨rfl, hb⟩; replace HW := aS (bs_ HW.out hb); clear hb)
   cases gk with
   | zero => exact absurd HJ.out.1 (by have := HJ2.out; omega)
   | succ k3 =>
    go_roundg k3
    case measure => omega
    case rel => exact ⟨j + 1, by first | rfl | rw [q7], ⟨by have := HJ.out.1; omega, by have := HJ2.out; omega, fun i hi => (Nat.lt_succ_iff_lt_or_eq.1 hi).elim (HJ.out.2.2 i) (fun h => by rw [h, HX.out]; exact HT.out)⟩, HW⟩
theorem z7w (c : Nat) (A : Option Addr) (ts : List xx) (w : World) (hr0 : Kd.C xC w A ts.length ts) :
 Calls Tryz.prog 89 #[.slice A ts.length c, .func (Fn.func 91) #[] #[]] w fun e w' => e = .returned (.bool (!decide (∀ j < ts.length, z17 (yg ts (j : Int)).f0 (yg ts (j : Int)).f1 = true))) ∧ Below w.heap.size w w' := by
 obtain ⟨d, hd⟩ : ∃ d, decide (∀ j < ts.length, z17 (yg ts (j : Int)).f0 (yg ts (j : Int)).f1 = true) = d := ⟨_, rfl⟩
 have HI : Aside0 (Calls Tryz.prog 137 #[.slice A ts.length c, .func (Fn.func 91) #[] #[]] w fun e w' => ∃ i : Int, e = .returned (.int .i64 i) ∧ decide (0 ≤ i) = (!d) ∧ Below w.heap.size w w') :=
  ⟨(z7G c A ts _ rfl w hr0).mono (fun e w' ⟨i, h1, h2, h3⟩ => ⟨i, h1, by
   cases d
   ·rw [dT (h2.2 (of_decide_eq_false hd))]; rfl
   ·rw [dF (fun h => (h2.1 h) (of_decide_eq_true hd))]; rfl, h3⟩)⟩
 rw [hd]
 clear hr0 hd
 go_enter Tryz.func89, Tryz.ntmps89
 go_wp2_with fail
 (with_reducible refine HI.out.mono ?_)
 rintro e w1 ⟨i, rfl, hi, hb⟩
 go_wp2
 refine bodyPost_ret (v := .bool (!d)) (by simp [results, Tryz.results89, go_sem, hi]) rfl ⟨rfl, hb⟩
theorem z9H {w : World} {base : Nat} {v : Value} (ho : w.ownsRow base 115 2 v 0 []) : Kd.N xC 115 w base (fun _ => True) v [] := Kd.R_N (show Kd.R xC 115 w base (fun _ => True) v [] from ⟨fun _ _ => trivial, [], ho, zQ.none _ _⟩)
theorem z7B (n : Nat) (z : Int) (hz : z = (n : Int)) (hn : n ≤ 200000) (w : World) : Calls Tryz.prog 138 #[.slice none 0 0, .int .i64 z] w fun e w' => ∃ v, e = .returned v ∧ Kd.N xC 115 w' w.heap.size (fun _ => True) v [] ∧ Below w.heap.size w w' := by
 subst hz
 have e1 : wrap64 (n : Int) = (n : Int) := by unfold wrap64; omega
 have e2 : wrap64 ((n : Int) - 0) = (n : Int) := by unfold wrap64; omega
 have k1 : decide ((n : Int) < 0) = false := dF (by omega)
 have k2 : ((n : Int) < 0) = False := eq_false (by omega)
 by_cases h0 : n = 0
 ·subst h0
  go_enter Tryz.func138, Tryz.ntmps138
  go_wp2
  refine bodyPost_ret (by simp [results, Tryz.results138, go_sem]) rfl ⟨_, rfl, Kd.z2l _ _ _ _ _, Below.refl _ _⟩
 ·obtain ⟨i0, hi, hz0, hz1, hz2⟩ := info_parts z2d
  have hr := Lib.run_append_nil_zeros (P := Tryz.prog) w 47 3 47 115 i0 _ .i64 .i64 Tryz.underlying47 Tryz.underlying3 hi hz0 n (by omega) (by rw [hz1]; decide) (by omega) (by rw [hz2]; omega)
  rw [show Value.int IntKind.i64 (n : Int) = Value.int IntKind.i64 (wrap64 (n : Int)) by rw [e1]] at hr
  have k3 : decide (0 < (n : Int)) = true := dT (by omega)
  have k4 : decide (0 < n) = true := dT (by omega)
  have k5 : (0 < n) = True := eq_true (by omega)
  have HZ := aS (And.intro hn h0)
  clear hn h0
  go_enter Tryz.func138, Tryz.ntmps138
  go_wp2_with (at_builtin; refine Lib.wpList_append_run _ rfl _ _ _ _ rfl _ _ rfl rfl _ _ hr ?_)
  refine bodyPost_ret (by simp [results, Tryz.results138, go_sem]) rfl ⟨_, rfl, z9H ⟨rfl, .inr ⟨w.heap.size, grownCap w n 0 115, _, rfl, Nat.le_refl _, heap_alloc_new w _, Nat.zero_le _, grownCap_le_maxLen w n 0 115 (by have := HZ.out; unfold maxLen; omega), ?_, rfl⟩⟩, (zl (Below.refl _ _) _).drew⟩
  have hge := grownCap_ge w n 0 115
  simp only [Array.size_append, size_zeroCells, List.size_toArray, List.length_cons, List.length_nil]
  omega
theorem z8U (g c c1 c2 : Nat) (A1 A2 : Option Addr) (f1 f2 : List xx) (w0 w : World) (hW : Below w0.heap.size w0 w) (h1 : f1.length ≤ 100000) (h2 : f2.length ≤ 100000) (g1 : Kd.C xC w0 A1 f1.length f1) (g2 : Kd.C xC w0 A2 f2.length f2)
 (hs0 : w.cell? ⟨g, 0, none⟩ = some (.slice A1 f1.length c1)) (hs1 : w.cell? ⟨g, 1, none⟩ = some (.slice A2 f2.length c2)) :
 Calls Tryz.prog 90 #[.slice (some ⟨g, 0, none⟩) 2 c] w fun e w' => ∃ v, e = .returned v ∧ Kd.N xC 115 w' w.heap.size (fun _ => True) v (f1 ++ f2) ∧ Below w.heap.size w w' := by
 have e1 : wrap64 (f1.length : Int) = (f1.length : Int) := by unfold wrap64; omega
 have e2 : wrap64 ((f1.length : Int) + (f2.length : Int)) = ((f1.length + f2.length : Nat) : Int) := by unfold wrap64; omega
 have k1 : decide ((f1.length : Int) < 0) = false := dF (by omega)
 have k2 : ((f1.length : Int) < 0) = False := eq_false (by omega)
 have k3 : decide (((f1.length + f2.length : Nat) : Int) < 0) = false := dF (by omega)
 have k4 : (((f1.length + f2.length : Nat) : Int) < 0) = False := eq_false (by omega)
 have k5 : ((f1.length : Int) + (f2.length : Int) < 0) = False := eq_false (by omega)
 have HZ := aS (And.intro h1 h2)
 have HW := aS hW
 have HG := aS (And.intro g1 g2)
 clear h1 h2 g1 g2 hW
 go_enter Tryz.func90, Tryz.ntmps90
 go_wp2_with fail
 refine wp_loop_rounds 3 ?_
 repeat (rw [rounds_succ]; go_wp2_with fail)
 refine (z7B (f1.length + f2.length) _ ?hz (by have := HZ.out; omega) _).mono ?_
 case hz => exact (Int.natCast_add _ _).symm
 rintro e w1 ⟨va, rfl, hN, hb⟩
 have HNa := aS hN
 have HBa := aS hb
 have s0 := ze hb hs0
 have s1 := ze hb hs1
 have HS1 := aS hs1
 clear hN hb hs0 hs1
 go_wp2
 refine wp_loop_rounds 3 ?_
 rw [rounds_succ]
 go_wp2_with (at_builtin; refine Kd.z33 xC (w0 := w) w.heap.size rfl _ _ 47 115 (.agg #[(.int .i64 0), (.slice none 0 0)]) 32 rfl Tryz.underlying47 z2d rfl (by decide) (by decide) va [] f1 A1 f1.length c1 (fun _ => True) (fun k => k < w0.heap.size) rfl rfl HNa.out ?hF ?hokp (fun _ _ => trivial) HBa.out HBa.out.size ?hl ?_)
 case hF => exact fun _ hW => z2R.C (fun k hlt => (hW k hlt (by have h8 := HW.out.size; have h9 := HBa.out.size; omega)).trans ((HBa.out.block k (Nat.lt_of_lt_of_le hlt HW.out.size)).trans (HW.out.block k hlt))) HG.out.1
 case hokp => exact fun k hk => ⟨trivial, fun e => by have := Kd.z0i HNa.out k e.symm; have h8 := HW.out.size; omega⟩
 case hl => have := HZ.out; simp only [List.length_nil]; omega
 intro vb w2 hN hb hg hat
 have HNb := aS hN
 have HBb := aS hb
 have s2 := ze hb HS1.out
 clear hN hb hg hat s0 s1
 go_wp2
 rw [rounds_succ]
 go_wp2_with (at_builtin; refine Kd.z33 xC (w0 := w) w.heap.size rfl _ _ 47 115 (.agg #[(.int .i64 0), (.slice none 0 0)]) 32 rfl Tryz.underlying47 z2d rfl (by decide) (by decide) vb f1 f2 A2 f2.length c2 (fun _ => True) (fun k => k < w0.heap.size) rfl rfl HNb.out ?hF ?hokp (fun _ _ => trivial) HBb.out HBb.out.size ?hl ?_)
 case hF => exact fun _ hW => z2R.C (fun k hlt => (hW k hlt (by have h8 := HW.out.size; have h9 := HBb.out.size; omega)).trans ((HBb.out.block k (Nat.lt_of_lt_of_le hlt HW.out.size)).trans (HW.out.block k hlt))) HG.out.2
 case hokp => exact fun k hk => ⟨trivial, fun e => by have := Kd.z0i HNb.out k e.symm; have h8 := HW.out.size; omega⟩
 case hl => have := HZ.out; omega
 intro vc w3 hN hb hg hat
 have HNc := aS hN
 have HBc := aS hb
 clear hN hb hg hat s2
 go_wp2
 rw [rounds_succ]
 go_wp2
 refine bodyPost_ret (by simp [results, Tryz.results90, go_sem]) rfl ⟨_, rfl, HNc.out, HBc.out⟩
section
section
attribute [local go_sem] xf xg xD xE
theorem z7D (A0 : Option Addr) (c0 m : Nat) (l0 : List S50) (w : World) (hr0 : Kd.C k50 w A0 l0.length l0) (hc0 : l0.length ≤ c0) (hm : m < l0.length) (hs : (z8 l0 (m : Int)).f0.size ≤ 100000) (h1 : (z8 l0 (m : Int)).f1.length ≤ 100000) (h2 : (z8 l0 (m : Int)).f2.length ≤ 100000) :
    Calls Tryz.prog 31 #[.slice A0 l0.length c0, .int .i64 (m : Int)] w fun e w' => e = .returned (.int .i64 (z0n l0 m)) ∧ Below w.heap.size w w' := by
  have hu50 := Tryz.underlying50
  have hu115 := Tryz.underlying115
  have HR0 := aS hr0
  have HZ := aS (show m < l0.length ∧ (z8 l0 (m : Int)).f0.size ≤ 100000 ∧ (z8 l0 (m : Int)).f1.length ≤ 100000 ∧ (z8 l0 (m : Int)).f2.length ≤ 100000 ∧ l0.length ≤ 9223372036854775807 from ⟨hm, hs, h1, h2, Kd.z2k hr0⟩)
  have fa1 : (0 ≤ (m : Int)) = True := eq_true (by omega)
  have fa2 : ((m : Int) < (l0.length : Int)) = True := eq_true (by omega)
  have fa3 : (m < l0.length) = True := eq_true hm
  have fa4 : ((m : Int) ≤ (c0 : Int)) = True := eq_true (by omega)
  have fa5 : (m ≤ c0) = True := eq_true (by omega)
  obtain ⟨ad, R1, k1, R2, k2, R4, k4, eA, x0, x1, x2, x3, x4, l1, g1, l2, g2, l4, g4⟩ := xW hr0 (m : Int) (by omega) (by omega)
  subst eA
  rw [Int.toNat_natCast] at x0 x1 x2 x3 x4
  have HG := aS (And.intro g1 (And.intro g2 (And.intro l1 l2)))
  clear hr0 hc0 hm hs h1 h2 l1 g1 l2 g2 l4 g4
  obtain ⟨rr, hrr⟩ : ∃ rr, z0n l0 m = rr := ⟨_, rfl⟩
  rw [hrr]
  have HH := aS hrr
  clear hrr
  obtain ⟨r, hr⟩ : ∃ r, z8 l0 (m : Int) = r := ⟨_, rfl⟩
  have HRD := aS hr
  rw [hr] at x0 x1 x2 x3 x4 HG HZ
  clear hr
  go_enter Tryz.func31, Tryz.ntmps31
  go_upto_region 2 with fail
  refine z2x (fun W => Below w.heap.size w W ∧ W.heap[w.heap.size]? = some (.cells #[.string r.f0, .slice R1 r.f1.length k1, .slice R2 r.f2.length k2, .int .i64 r.f3, .slice R4 r.f4.length k4] 50 (0, 0))) ⟨zl (Below.refl _ _) _, xt _ _⟩ ?_
  clear x0 x1 x2 x3 x4
  rintro w1 ⟨hB, hR⟩
  have HB := aS hB
  have BR := aS hR
  clear hB hR
  obtain ⟨r0, r1, r2, r3, r4⟩ := yL BR.out
  obtain ⟨t1, ht1⟩ : ∃ t, z1r r.f0 = t := ⟨_, rfl⟩
  have HT1 := aS ht1
  clear ht1
  cases t1 with
  | false =>
    have HA : Aside0 (rr = 13) := ⟨by rw [← HH.out]; unfold z0n; rw [HRD.out, HT1.out, if_pos rfl]⟩
    go_wp2_with (go_at_call 86; (with_reducible refine (z2e r.f0 _ (by have := HZ.out; omega)).mono ?_); rw [HT1.out]; rintro e w2 ⟨rfl, hb⟩; replace HB := aS (bs_ HB.out hb); clear hb)
    refine bodyPost_ret (v := .int .i64 13) (by simp [results, Tryz.results31, go_sem]) rfl ⟨by rw [HA.out], HB.out⟩
  | true =>
    obtain ⟨d2, hd2⟩ : ∃ d, decide (∀ i < m, (z8 l0 (i : Int)).f0.toList ≠ r.f0.toList) = d := ⟨_, rfl⟩
    have HD2 := aS hd2
    have HCN := aS (fun W (hb : Below w.heap.size w W) hblk => z7v w.heap.size c0 m ad l0 r.f0 R1 R2 R4 r.f1.length k1 r.f2.length k2 r.f4.length k4 r.f3 W (Kd.zK HR0.out hb) (by have := HZ.out; omega) hblk)
    rw [hd2] at HCN
    clear hd2
    cases d2 with
    | false =>
      have HA : Aside0 (rr = 7) := ⟨by rw [← HH.out]; unfold z0n; rw [HRD.out, HT1.out, if_neg (by decide), if_pos HD2.out]⟩
      go_wp2_with (first | (go_at_call 86; (with_reducible refine (z2e r.f0 _ (by have := HZ.out; omega)).mono ?_); rw [HT1.out]; rintro e w2 ⟨rfl, hb⟩; replace HB := aS (bs_ HB.out hb); replace BR := aS (zf BR.out hb); clear hb r0 r1 r2 r3 r4) | (go_at_call 87; (with_reducible refine (HCN.out _ HB.out BR.out).mono ?_); rintro e w3 ⟨rfl, hb⟩; replace HB := aS (bs_ HB.out hb); clear hb))
      refine bodyPost_ret (v := .int .i64 7) (by simp [results, Tryz.results31, go_sem]) rfl ⟨by rw [HA.out], HB.out⟩
    | true =>
      go_wp2_with (first | (go_at_call 86; (with_reducible refine (z2e r.f0 _ (by have := HZ.out; omega)).mono ?_); rw [HT1.out]; rintro e w2 ⟨rfl, hb⟩; replace HB := aS (bs_ HB.out hb); replace BR := aS (zf BR.out hb); clear hb r0 r1 r2 r3 r4) | (go_at_call 87; (with_reducible refine (HCN.out _ HB.out BR.out).mono ?_); rintro e w3 ⟨rfl, hb⟩; replace HB := aS (bs_ HB.out hb); replace BR := aS (zf BR.out hb); clear hb; obtain ⟨r0, r1, r2, r3, r4⟩ := yL BR.out))
      have HBn := aS (zl HB.out (.cells #[.slice R1 r.f1.length k1, .slice R2 r.f2.length k2] 47))
      have BRn := aS (zZ BR.out (.cells #[.slice R1 r.f1.length k1, .slice R2 r.f2.length k2] 47))
      refine (z8U _ 2 k1 k2 R1 R2 r.f1 r.f2 w _ HBn.out HZ.out.2.2.1 HZ.out.2.2.2.1 HG.out.1 HG.out.2.1 ((za (xt w3 _) 0).trans rfl) ((za (xt w3 _) 1).trans rfl)).mono ?_
      rintro e w4 ⟨v, rfl, hN, hb⟩
      obtain ⟨Ac, cc, rfl⟩ := Kd.z0x hN
      have HC := aS (Kd.yD hN).2.2
      replace HB := aS (bs_ HBn.out hb)
      replace BR := aS (zf BRn.out hb)
      clear hN hb HBn BRn r0 r1 r2 r3 r4
      obtain ⟨d3, hd3⟩ : ∃ d, decide (∀ i < (r.f1 ++ r.f2).length, z17 (yg (r.f1 ++ r.f2) (i : Int)).f0 (yg (r.f1 ++ r.f2) (i : Int)).f1 = true) = d := ⟨_, rfl⟩
      have HD3 := aS hd3
      have HCT := aS (z7w cc Ac (r.f1 ++ r.f2) w4 HC.out)
      rw [hd3, List.length_append] at HCT
      clear hd3
      obtain ⟨r0, r1, r2, r3, r4⟩ := yL BR.out
      cases d3 with
      | false =>
        have HA : Aside0 (rr = 12) := ⟨by rw [← HH.out]; unfold z0n; rw [HRD.out, HT1.out, if_neg (by decide), if_neg (by rw [HD2.out]; decide), if_pos HD3.out]⟩
        go_wp2_with (go_at_call 89; (with_reducible refine HCT.out.mono ?_); rintro e w5 ⟨rfl, hb⟩; replace HB := aS (bs_ HB.out hb); clear hb)
        refine bodyPost_ret (v := .int .i64 12) (by simp [results, Tryz.results31, go_sem]) rfl ⟨by rw [HA.out], HB.out⟩
      | true =>
        have HA : Aside0 (rr = if z2D r = true then 3 else 0) := ⟨by rw [← HH.out]; unfold z0n; rw [HRD.out, HT1.out, if_neg (by decide), if_neg (by rw [HD2.out]; decide), if_neg (by rw [HD3.out]; decide)]⟩
        go_wp2_with (go_at_call 89; (with_reducible refine HCT.out.mono ?_); rintro e w5 ⟨rfl, hb⟩; replace HB := aS (bs_ HB.out hb); replace BR := aS (zf BR.out hb); clear hb r0 r1 r2 r3 r4; obtain ⟨r0, r1, r2, r3, r4⟩ := yL BR.out)
        all_goals first
          | (have hl : z2D r = true := by
               unfold z2D; simp only [Bool.or_eq_true, decide_eq_true_eq]; omega
             refine bodyPost_ret (v := .int .i64 3) (by simp [results, Tryz.results31, go_sem]) rfl ⟨by rw [HA.out, if_pos hl], HB.out⟩)
          | (have hl : z2D r = false := by
               unfold z2D; simp only [Bool.or_eq_false_iff, decide_eq_false_iff_not]; omega
             refine bodyPost_ret (v := .int .i64 0) (by simp [results, Tryz.results31, go_sem]) rfl ⟨by rw [HA.out, if_neg (by rw [hl]; decide)], HB.out⟩)
          | trace_state
def z0J.f (l : List S50) (a1 : Int) : Option Int := z4Q l a1
theorem z0J.calls (A0 : Option Addr) (c0 : Nat) (l0 : List S50) (a1 : Int) (r : Int) (w : World) (hG : GW w) (hr0 : Kd.C k50 w A0 l0.length l0) (hc0 : l0.length ≤ c0) (h : z0J.f l0 a1 = some r) :
 Calls Tryz.prog 31 #[.slice A0 l0.length c0, .int .i64 a1] w fun e w' => e = .returned (.int .i64 r) ∧ Below w.heap.size w w' := by
 unfold z0J.f z4Q at h
 by_cases hat : 0 ≤ a1 ∧ a1 < (l0.length : Int) ∧ z3p (z8 l0 a1) = true
 ·rw [if_pos hat] at h
  obtain rfl := sI h
  obtain ⟨m, rfl⟩ := Int.eq_ofNat_of_zero_le hat.1
  have hs := z0X.1 hat.2.2
  exact z7D A0 c0 m l0 w hr0 hc0 (by have := hat.2.1; omega) hs.1 hs.2.1 hs.2.2
 ·rw [if_neg hat] at h
  cases h
end
end
end Go.Proofs.QP

