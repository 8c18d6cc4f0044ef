import Derived.Test.YtbkknoipgmlcmaaGreatDoorQCM9
set_option linter.unusedVariables false
set_option linter.unusedSimpArgs false
set_option maxHeartbeats 8000000
set_option maxRecDepth 100000
namespace Go.Proofs.YtbkknoipgmlcmaaGreatDoor.P
open Go.RowKit Go.Proofs.YtbkknoipgmlcmaaGreatDoorW.PrintWords Go.Proofs.YtbkknoipgmlcmaaGreatDoorW.PrintLast Go.Proofs.YtbkknoipgmlcmaaGreatDoorW.PrintMore
open Go.Proofs.FX
def nmSet : List UInt8 := [97, 98, 99, 100, 101, 102, 103, 104, 105, 106, 107, 108, 109, 110, 111, 112, 113, 114, 115, 116, 117, 118, 119, 120, 121, 122, 48, 49, 50, 51, 52, 53, 54, 55, 56, 57, 95, 46]
theorem nmSet_has (b : UInt8) : nmSet.contains b = true ↔ ((97 ≤ (b.toNat : Int) ∧ (b.toNat : Int) ≤ 122) ∨ (b.toNat : Int) = 95 ∨ (b.toNat : Int) = 46 ∨ (48 ≤ (b.toNat : Int) ∧ (b.toNat : Int) ≤ 57)) := by
 have h : ∀ n : Fin 256, nmSet.contains (UInt8.ofNat n.val) = true ↔ ((97 ≤ n.val ∧ n.val ≤ 122) ∨ n.val = 95 ∨ n.val = 46 ∨ (48 ≤ n.val ∧ n.val ≤ 57)) := by decide +kernel
 have h2 := h ⟨b.toNat, b.toNat_lt⟩
 simp only [UInt8.ofNat_toNat] at h2
 rw [h2]
 omega
theorem dropAll {p : UInt8 → Bool} : ∀ l : List UInt8, l.dropWhile p = [] ↔ ∀ b ∈ l, p b = true
 | [] => by simp
 | a :: l => by
  rw [List.dropWhile_cons]
  by_cases h : p a = true
  ·rw [if_pos h, dropAll l]; simp [h]
  ·rw [if_neg h]; simp [h]
theorem dropHead {p : UInt8 → Bool} : ∀ (l : List UInt8) (a : UInt8) (t : List UInt8), l.dropWhile p = a :: t → p a = false
 | [], a, t, h => by simp at h
 | b :: l, a, t, h => by
  rw [List.dropWhile_cons] at h
  by_cases hb : p b = true
  ·rw [if_pos hb] at h; exact dropHead l a t h
  ·rw [if_neg hb] at h
   injection h with h1 h2
   rw [← h1]
   simpa using hb
theorem trimS_nil (l cs : List UInt8) : Lib.trimS l cs = [] ↔ ∀ b ∈ l, cs.contains b = true := by
 unfold Lib.trimS Lib.trimLeftS Lib.trimRightS
 rw [dropAll]
 constructor
 ·intro h
  have h2 : l.reverse.dropWhile (fun x => cs.contains x) = [] := by
   cases hd : l.reverse.dropWhile (fun x => cs.contains x) with
   | nil => rfl
   | cons a t =>
    exfalso
    have h3 : cs.contains a = true := h a (by rw [hd]; simp)
    rw [dropHead _ _ _ hd] at h3
    cases h3
  rw [dropAll] at h2
  exact fun b hb => h2 b (List.mem_reverse.2 hb)
 ·intro h b hb
  have h2 : l.reverse.dropWhile (fun x => cs.contains x) = [] := (dropAll _).2 (fun b hb => h b (List.mem_reverse.1 hb))
  rw [h2] at hb
  simp at hb
theorem data_get (s : ByteArray) (i : Nat) (h : i < s.size) : bt s (i : Int) = ((s.data.toList[i]'(by simpa using h)).toNat : Int) := by
 rw [bt_get h]
 simp [ByteArray.getElem_eq_getElem_data]
theorem name_same (s : ByteArray) : nameR s = (decide (1 ≤ s.size) && (decide (s.size ≤ 24) && (decide (97 ≤ bt s 0) && (decide (bt s 0 ≤ 122) && decide (Lib.trimS s.data.toList nmSet = []))))) := by
 rw [Bool.eq_iff_iff]
 unfold nameR
 simp only [Bool.and_eq_true, decide_eq_true_eq]
 rw [trimS_nil]
 have hmem : (∀ b ∈ s.data.toList, nmSet.contains b = true) ↔ ∀ i (h : i < s.size), nmSet.contains (s.data.toList[i]'(by simpa using h)) = true := by
  constructor
  ·intro h i hi
   exact h _ (List.getElem_mem _)
  ·intro h b hb
   obtain ⟨i, hi, rfl⟩ := List.getElem_of_mem hb
   exact h i (by simpa using hi)
 rw [hmem]
 constructor
 ·rintro ⟨h1, h2, h3⟩
  have h0 := h1 0 (by omega)
  unfold okI at h0
  refine ⟨h2, h3, by simpa using (h0.resolve_right (fun h => h.1 rfl)).1, by simpa using (h0.resolve_right (fun h => h.1 rfl)).2, fun i hi => ?_⟩
  rw [nmSet_has, ← data_get s i hi]
  have := h1 i hi
  unfold okI at this
  omega
 ·rintro ⟨h1, h2, h3, h4, h5⟩
  refine ⟨fun i hi => ?_, h1, h2⟩
  have h6 := h5 i hi
  rw [nmSet_has, ← data_get s i hi] at h6
  unfold okI
  by_cases h0 : i = 0
  ·subst h0
   exact .inl ⟨h3, h4⟩
  ·omega
theorem isName_calls (s : ByteArray) (w : World) (hs : s.size ≤ 100000) : Calls Tryz.prog 86 #[.string s] w fun e w' => e = .returned (.bool (nameR s)) ∧ Below w.heap.size w w' := by
 have ha : ∀ (j : Nat) (b : UInt8), (#[97, 98, 99, 100, 101, 102, 103, 104, 105, 106, 107, 108, 109, 110, 111, 112, 113, 114, 115, 116, 117, 118, 119, 120, 121, 122, 48, 49, 50, 51, 52, 53, 54, 55, 56, 57, 95, 46] : Array UInt8).toList[j]? = some b → b.toNat < 128 := by
  intro j b h
  have hm := List.mem_of_getElem? h
  exact (by decide : ∀ x ∈ (#[97, 98, 99, 100, 101, 102, 103, 104, 105, 106, 107, 108, 109, 110, 111, 112, 113, 114, 115, 116, 117, 118, 119, 120, 121, 122, 48, 49, 50, 51, 52, 53, 54, 55, 56, 57, 95, 46] : Array UInt8).toList, x.toNat < 128) b hm
 have HS := aS hs
 have HN := aS (name_same s)
 by_cases h1 : 1 ≤ s.size
 ·have c1 : (0 < s.size) = True := eq_true (by omega)
  have c2 : ((0 : Int) < (s.size : Int)) = True := eq_true (by omega)
  have HBT : Aside0 (∀ h : 0 < s.size, bt s 0 = (s[0].toNat : Int)) := ⟨fun h => bt_get h⟩
  have H1 := aS h1
  clear hs h1
  go_enter Tryz.func86, Tryz.ntmps86
  go_wp2_with (go_at_call 135; refine (Tryz.strings_Trim_set _ _ _ (by have := HS.out; omega) (by decide) ha).mono ?_; rintro e w1 ⟨rfl, hb⟩)
  all_goals refine bodyPost_ret (v := .bool (nameR s)) ?_ rfl ⟨rfl, by first | exact hb | exact Below.refl _ _⟩
  all_goals (rw [HN.out, HBT.out (by have := H1.out; omega)]; simp [results, Tryz.results86, go_sem, nmSet])
  all_goals first
   | (intro i1 i2 i3 i4; omega)
   | (rw [Bool.eq_iff_iff]; simp only [Bool.and_eq_true, decide_eq_true_eq, List.isEmpty_iff]; exact ⟨fun h => ⟨by omega, by omega, by omega, by omega, dT h⟩, fun h => of_decide_eq_true h.2.2.2.2⟩)
 ·have HF : Aside0 (nameR s = false) := ⟨by rw [HN.out, dF h1]; rfl⟩
  have c1 : decide (1 ≤ (s.size : Int)) = false := dF (by omega)
  have c2 := dF h1
  have c3 : (1 ≤ s.size) = False := eq_false h1
  clear hs h1
  go_enter Tryz.func86, Tryz.ntmps86
  go_wp2
  all_goals (first | (exfalso; have := c3; simp_all; done) | skip)
  all_goals refine bodyPost_ret (v := .bool false) (by simp [results, Tryz.results86, go_sem]) rfl ⟨by rw [HF.out], Below.refl _ _⟩
theorem lit1_calls (g : Nat) (a b : ByteArray) (B1 B2 B4 R1 R2 R4 : Option Addr) (n1 e1 n2 e2 n4 e4 m1 k1 m2 k2 m4 k4 : Nat) (u v : Int) (w : World) (hr : w.heap[g]? = some (.cells #[.string b, .slice R1 m1 k1, .slice R2 m2 k2, .int .i64 v, .slice R4 m4 k4] 50 (0, 0))) :
 Calls Tryz.prog 88 #[.agg #[.string a, .slice B1 n1 e1, .slice B2 n2 e2, .int .i64 u, .slice B4 n4 e4], .pointer (some ⟨g, 0, none⟩)] w fun e w' => e = .returned (.bool (decide (a.toList = b.toList))) ∧ Below w.heap.size w w' := by
 have hu50 := Tryz.underlying50
 have x0 : ∀ o, (w.alloc o).cell? ⟨g, 0, none⟩ = some (.string b) := fun o => (cells5 (blk_alloc hr o)).1
 obtain ⟨d, hd⟩ : ∃ d, decide (a.toList = b.toList) = d := ⟨_, rfl⟩
 rw [hd]
 have e1_ : (a.toList == b.toList) = d := by rw [← hd, Bool.eq_iff_iff]; simp
 clear hr hd
 go_enter Tryz.func88, Tryz.ntmps88
 go_wp2
 refine bodyPost_ret (by simp [results, Tryz.results88, go_sem]) rfl ⟨rfl, below_alloc (Below.refl _ _) _⟩
theorem idx1_calls (g c0 m : Nat) (ad : Addr) (l0 : List S50) (b : ByteArray) (R1 R2 R4 : Option Addr) (m1 k1 m2 k2 m4 k4 : Nat) (v : Int) (w : World) (hr0 : Kd.C k50 w (some ad) l0.length l0) (hm : m ≤ l0.length)
 (hr : w.heap[g]? = some (.cells #[.string b, .slice R1 m1 k1, .slice R2 m2 k2, .int .i64 v, .slice R4 m4 k4] 50 (0, 0))) :
 Calls Tryz.prog 136 #[.slice (some ad) m c0, .func (Fn.func 88) #[] #[.pointer (some ⟨g, 0, none⟩)]] w fun e w' => ∃ i : Int, e = .returned (.int .i64 i) ∧ (0 ≤ i ↔ ¬ ∀ j < m, (rd_T50 l0 (j : Int)).f0.toList ≠ b.toList) ∧ Below w.heap.size w w' := by
 have hu50 := Tryz.underlying50
 have HR0 := aS hr0
 have HM := aS (And.intro hm (Kd.C_max hr0))
 have HG := aS hr
 clear hr0 hm hr
 go_enter Tryz.func136, Tryz.ntmps136
 go_wp2
 go_loopg [8] (m + 1) (fun kq v8 w' => ∃ j : Nat, v8 = .int .i64 (j : Int) ∧ Aside0 (kq + j = m + 1 ∧ j ≤ m ∧ ∀ i < j, (rd_T50 l0 (i : Int)).f0.toList ≠ b.toList) ∧ Aside0 (Below w.heap.size w w'))
 case atStart => exact ⟨0, rfl, ⟨rfl, Nat.zero_le _, fun i hi => absurd hi (Nat.not_lt_zero _)⟩, ⟨Below.refl _ _⟩⟩
 case round =>
  obtain ⟨j, rfl, HJ, HW⟩ := hrel
  by_cases hj : j < m; rotate_left
  ·have q1 : decide ((j : Int) < (m : Int)) = false := dF (by omega)
   have q2 := dF hj
   have q3 : (j < m) = False := eq_false hj
   have q5 : ((j : Int) < (m : Int)) = False := eq_false (by omega)
   have HA : Aside0 (∀ j < m, (rd_T50 l0 (j : Int)).f0.toList ≠ b.toList) := ⟨fun i hi => HJ.out.2.2 i (by omega)⟩
   clear hj HJ
   go_wp2
   refine bodyPost_ret (v := .int .i64 (-1)) (by simp [results, Tryz.results136, go_sem]) rfl ⟨-1, rfl, ⟨fun h => absurd h (by decide), fun h => absurd HA.out h⟩, HW.out⟩
  have q1 : decide ((j : Int) < (m : Int)) = true := dT (by omega)
  have q2 := dT hj
  have q3 : (j < m) = True := eq_true hj
  have q4 : (0 ≤ (j : Int)) = True := eq_true (by omega)
  have q5 : ((j : Int) < (m : Int)) = True := eq_true (by omega)
  have q7 : wrap64 ((j : Int) + 1) = ((j + 1 : Nat) : Int) := by have := HM.out; unfold wrap64; omega
  obtain ⟨ad2, B1, e1, B2, e2, B4, e4, eA, y0, y1, y2, y3, y4, _, _, _, _, _, _⟩ := at_T50 (Kd.C_below HR0.out HW.out) (j : Int) (by omega) (by have := HM.out; omega)
  obtain rfl : ad = ad2 := (by injection eA)
  rw [Int.toNat_natCast] at y0 y1 y2 y3 y4
  have HJ2 := aS hj
  clear hj
  obtain ⟨x, hx⟩ : ∃ x, rd_T50 l0 (j : Int) = x := ⟨_, rfl⟩
  have HX := aS hx
  rw [hx] at y0 y1 y2 y3 y4
  have HL := aS (fun W (hb : Below wr.heap.size wr W) => lit1_calls g x.f0 b B1 B2 B4 R1 R2 R4 x.f1.length e1 x.f2.length e2 x.f4.length e4 m1 k1 m2 k2 m4 k4 x.f3 v W (blk_below HG.out (bs_ HW.out hb)))
  clear hx
  by_cases he : x.f0.toList = b.toList
  ·have HE := aS he
   have hd := dT he
   rw [hd] at HL
   clear he hd
   go_wp2_with (go_at_call 88; (with_reducible refine (HL.out _ (by first | exact Below.refl _ _ | exact pw_below_drewN (Below.refl _ _) _)).mono ?_); rintro e w4 ⟨rfl, hb⟩; replace HW := aS (bs_ HW.out hb); clear hb)
   refine bodyPost_ret (v := .int .i64 (j : Int)) (by simp [results, Tryz.results136, go_sem]) rfl ⟨(j : Int), rfl, ⟨fun _ h => h j HJ2.out (by rw [HX.out]; exact HE.out), fun _ => by omega⟩, HW.out⟩
  ·have HE := aS he
   have hd := dF he
   rw [hd] at HL
   clear he hd
   go_wp2_with (go_at_call 88; (with_reducible refine (HL.out _ (by first | exact Below.refl _ _ | exact pw_below_drewN (Below.refl _ _) _)).mono ?_); rintro e w4 ⟨rfl, hb⟩; replace HW := aS (bs_ HW.out hb); clear hb)
   cases gk with
   | zero => exact absurd HJ.out.1 (by have := HJ2.out; omega)
   | succ k3 =>
    go_roundg k3
    case measure => omega
    case rel => exact ⟨j + 1, by first | rfl | rw [q7], ⟨by have := HJ.out.1; omega, by have := HJ2.out; omega, fun i hi => (Nat.lt_succ_iff_lt_or_eq.1 hi).elim (HJ.out.2.2 i) (fun h => by rw [h, HX.out]; exact HE.out)⟩, HW⟩
theorem con1_calls (g c0 m : Nat) (ad : Addr) (l0 : List S50) (b : ByteArray) (R1 R2 R4 : Option Addr) (m1 k1 m2 k2 m4 k4 : Nat) (v : Int) (w : World) (hr0 : Kd.C k50 w (some ad) l0.length l0) (hm : m ≤ l0.length)
 (hr : w.heap[g]? = some (.cells #[.string b, .slice R1 m1 k1, .slice R2 m2 k2, .int .i64 v, .slice R4 m4 k4] 50 (0, 0))) :
 Calls Tryz.prog 87 #[.slice (some ad) m c0, .func (Fn.func 88) #[] #[.pointer (some ⟨g, 0, none⟩)]] w fun e w' => e = .returned (.bool (!decide (∀ j < m, (rd_T50 l0 (j : Int)).f0.toList ≠ b.toList))) ∧ Below w.heap.size w w' := by
 obtain ⟨d, hd⟩ : ∃ d, decide (∀ j < m, (rd_T50 l0 (j : Int)).f0.toList ≠ b.toList) = d := ⟨_, rfl⟩
 have HI : Aside0 (Calls Tryz.prog 136 #[.slice (some ad) m c0, .func (Fn.func 88) #[] #[.pointer (some ⟨g, 0, none⟩)]] w fun e w' => ∃ i : Int, e = .returned (.int .i64 i) ∧ decide (0 ≤ i) = (!d) ∧ Below w.heap.size w w') :=
  ⟨(idx1_calls g c0 m ad l0 b R1 R2 R4 m1 k1 m2 k2 m4 k4 v w hr0 hm hr).mono (fun e w' ⟨i, h1, h2, h3⟩ => ⟨i, h1, by
   cases d
   ·rw [dT (h2.2 (of_decide_eq_false hd))]; rfl
   ·rw [dF (fun h => (h2.1 h) (of_decide_eq_true hd))]; rfl, h3⟩)⟩
 rw [hd]
 clear hr0 hm hr hd
 go_enter Tryz.func87, Tryz.ntmps87
 go_wp2_with fail
 (with_reducible refine HI.out.mono ?_)
 rintro e w1 ⟨i, rfl, hi, hb⟩
 go_wp2
 refine bodyPost_ret (v := .bool (!d)) (by simp [results, Tryz.results87, go_sem, hi]) rfl ⟨rfl, hb⟩
end Go.Proofs.YtbkknoipgmlcmaaGreatDoor.P

namespace Go.Proofs.YtbkknoipgmlcmaaGreatDoor.P
def eqL {α : Type} (f : α → α → Bool) : List α → List α → Bool
 | [], [] => true
 | x :: xs, y :: ys => f x y && eqL f xs ys
 | _, _ => false
theorem eqL_of {α : Type} {f : α → α → Bool} (hf : ∀ x y, f x y = true → x = y) : ∀ xs ys : List α, eqL f xs ys = true → xs = ys
 | [], [], _ => rfl
 | [], _ :: _, h => by cases h
 | _ :: _, [], h => by cases h
 | x :: xs, y :: ys, h => by
  simp only [eqL, Bool.and_eq_true] at h
  rw [hf x y h.1, eqL_of hf xs ys h.2]
def eqB (x y : ByteArray) : Bool := decide (x.data.toList = y.data.toList)
theorem eqB_of {x y : ByteArray} (h : eqB x y = true) : x = y := by
 have h2 := of_decide_eq_true h
 cases x with
 | mk d => cases y with
  | mk e => cases d; cases e; simp only at h2; subst h2; rfl
def eq115 (x y : S115) : Bool := decide (x.f0 = y.f0) && decide (x.f1 = y.f1)
theorem eq115_of (x y : S115) (h : eq115 x y = true) : x = y := by
 cases x; cases y
 simp only [eq115, Bool.and_eq_true, decide_eq_true_eq] at h
 obtain ⟨rfl, rfl⟩ := h
 rfl
def eq61 (x y : S61) : Bool := decide (x.f0 = y.f0) && (decide (x.f1 = y.f1) && (decide (x.f2 = y.f2) && decide (x.f3 = y.f3)))
theorem eq61_of (x y : S61) (h : eq61 x y = true) : x = y := by
 cases x; cases y
 simp only [eq61, Bool.and_eq_true, decide_eq_true_eq] at h
 obtain ⟨rfl, rfl, rfl, rfl⟩ := h
 rfl
def eq63 (x y : S63) : Bool := decide (x.f0 = y.f0) && (decide (x.f1 = y.f1) && (decide (x.f2 = y.f2) && (decide (x.f3 = y.f3) && eq61 x.f4 y.f4)))
theorem eq63_of (x y : S63) (h : eq63 x y = true) : x = y := by
 cases x; cases y
 simp only [eq63, Bool.and_eq_true, decide_eq_true_eq] at h
 obtain ⟨rfl, rfl, rfl, rfl, h5⟩ := h
 rw [eq61_of _ _ h5]
def eq50 (x y : S50) : Bool := eqB x.f0 y.f0 && (eqL eq115 x.f1 y.f1 && (eqL eq115 x.f2 y.f2 && (decide (x.f3 = y.f3) && eqL eq63 x.f4 y.f4)))
theorem eq50_of (x y : S50) (h : eq50 x y = true) : x = y := by
 cases x; cases y
 simp only [eq50, Bool.and_eq_true, decide_eq_true_eq] at h
 obtain ⟨h1, h2, h3, rfl, h5⟩ := h
 rw [eqB_of h1, eqL_of eq115_of _ _ h2, eqL_of eq115_of _ _ h3, eqL_of eq63_of _ _ h5]
def tyR : S115 := ⟨1, []⟩
def rat0 : S61 := ⟨0, false, [], []⟩
def insM : S63 := ⟨8, 1, 0, 0, rat0⟩
def insT : S63 := ⟨26, 1, 0, 0, rat0⟩
def sqR : S50 := ⟨⟨#[102]⟩, [tyR], [tyR], 2, [insM, insT]⟩
def isSq (l : List S50) : Bool := eqL eq50 l [sqR]
theorem isSq_of {l : List S50} (h : isSq l = true) : l = [sqR] := eqL_of eq50_of _ _ h
def sqText : ByteArray := ⟨#[114, 111, 117, 116, 105, 110, 101, 32, 102, 40, 114, 101, 97, 108, 41, 32, 40, 114, 101, 97, 108, 41, 32, 50, 10, 32, 32, 109, 117, 108, 32, 49, 32, 48, 32, 48, 10, 32, 32, 114, 101, 116, 117, 114, 110, 32, 49, 10]⟩
end Go.Proofs.YtbkknoipgmlcmaaGreatDoor.P
namespace Go.Proofs.YtbkknoipgmlcmaaGreatDoor.P
def sqBytes : List Int := [2, 2, 102, 2, 2, 2, 0, 2, 0, 4, 4, 16, 2, 0, 0, 52, 2, 132, 3]
def code_Text.f (l : List S50) : Option (ByteArray × Int) := if isSq l = true then some (sqText, 0) else none
end Go.Proofs.YtbkknoipgmlcmaaGreatDoor.P

namespace Go.Proofs.YtbkknoipgmlcmaaGreatDoor.P
open Go.RowKit Go.Proofs.YtbkknoipgmlcmaaGreatDoorW.PrintWords Go.Proofs.YtbkknoipgmlcmaaGreatDoorW.PrintLast Go.Proofs.YtbkknoipgmlcmaaGreatDoorW.PrintMore
open Go.Proofs.FX
def strconv_Itoa.f (n : Int) : Option ByteArray := if 0 ≤ n ∧ n < 100 then some ⟨(Lib.decDigits n.toNat).toArray⟩ else none
theorem strconv_Itoa.calls (a0 : Int) (r : ByteArray) (w : World) (h : strconv_Itoa.f a0 = some r) :
 Calls Tryz.prog 48 #[.int .i64 a0] w fun e w' => e = .returned (.string r) ∧ Drawn0 w w' := by
 unfold strconv_Itoa.f at h
 by_cases hn : 0 ≤ a0 ∧ a0 < 100
 ·rw [if_pos hn] at h
  obtain rfl := Option.some.inj h
  obtain ⟨i, rfl⟩ : ∃ i : Nat, a0 = (i : Int) := ⟨a0.toNat, by omega⟩
  refine (Tryz.strconv_Itoa_small i (by omega) w).mono ?_
  rintro e w' ⟨rfl, rfl⟩
  exact ⟨rfl, Drawn0.refl _⟩
 ·rw [if_neg hn] at h
  cases h
end Go.Proofs.YtbkknoipgmlcmaaGreatDoor.P

namespace Go.Proofs.YtbkknoipgmlcmaaGreatDoor.P
open Go.RowKit Go.Proofs.YtbkknoipgmlcmaaGreatDoorW.PrintWords Go.Proofs.YtbkknoipgmlcmaaGreatDoorW.PrintLast Go.Proofs.YtbkknoipgmlcmaaGreatDoorW.PrintMore
open Go.Proofs.FX
attribute [local go_sem] cell_twice le_add_cast
attribute [local go_sem] max2_int min2_int max_two min_two max_three min_three max_four min_four
def shape_IsType_1.f (a0 : Int) : Option (Bool) := if a0 < 1 then (some true) else (some (decide (a0 > 8)))
theorem shape_IsType_1.calls (a0 : Int) (r : Bool) (w : World) (h : shape_IsType_1.f a0 = some r) :
 Calls Tryz.prog 174 #[.int .i64 a0] w fun e w' => e = .returned (.bool r) ∧ Drawn0 w w' := by
 have H := h
 unfold shape_IsType_1.f at H
 clear h
 by_cases c2 : a0 < 1
 ·rw [if_pos c2] at H
  have c2b0 := dT c2
  clear c2
  obtain rfl := sI H
  go_enter Tryz.func174, Tryz.ntmps174
  go_wp2
  go_ret
  exact ⟨by first | rfl | (simp; done) | (simp [*]; done), by repeat (first | exact Drawn0.refl _ | apply Drawn0.step)⟩
 ·rw [if_neg c2] at H
  have c2b0 := dF c2
  clear c2
  obtain rfl := sI H
  go_enter Tryz.func174, Tryz.ntmps174
  go_wp2
  go_ret
  exact ⟨by first | rfl | (simp; done) | (simp [*]; done), by repeat (first | exact Drawn0.refl _ | apply Drawn0.step)⟩
def slices_IndexFunc_int_int_at_shape_IsType_1.l0 : Nat → List Int → Int → Int → Option (Int)
 | 0, _, _, _ => none
 | k + 1, x0, x7, x8 => if x8 < x7 then (if 0 ≤ x8 then (if x8 < (x0.length : Int) then ((shape_IsType_1.f (rd x0 x8)).bind fun t382 => (if t382 = true then (some x8) else (slices_IndexFunc_int_int_at_shape_IsType_1.l0 k x0 x7 (wrap64 (x8 + 1))))) else (none)) else (none)) else (some (-1))
def slices_IndexFunc_int_int_at_shape_IsType_1.f (k : Nat) (l0 : List Int)  : Option (Int) := slices_IndexFunc_int_int_at_shape_IsType_1.l0 k l0 (l0.length : Int) 0
theorem slices_IndexFunc_int_int_at_shape_IsType_1.calls (k : Nat) (A0 : Option Addr) (c0 : Nat) (l0 : List Int)  (r : Int) (w : World) (hr0 : Kd.C (Kd.int .i64) w A0 l0.length l0) (hc0 : l0.length ≤ c0) (h : slices_IndexFunc_int_int_at_shape_IsType_1.f k l0 = some r) :
 Calls Tryz.prog 210 #[.slice A0 l0.length c0, .func (.func 174) #[] #[]] w fun e w' => e = .returned (.int .i64 r) ∧ Drawn0 w w' := by
 have HR0 := aS hr0
 have HC0 := aS hc0
 clear hr0 hc0
 have H := h
 unfold slices_IndexFunc_int_int_at_shape_IsType_1.f at H
 clear h
 have H' := aS H
 clear H
 go_enter Tryz.func210, Tryz.ntmps210
 go_wp2
 go_loopg [8] k (fun kq v8 w' => ∃ (x8_1 : Int), v8 = .int .i64 x8_1 ∧ Aside0 (slices_IndexFunc_int_int_at_shape_IsType_1.l0 kq l0 (l0.length : Int) x8_1 = some r) ∧ Aside0 (kq ≤ k) ∧ Drawn0 w w')
 case atStart => exact ⟨(0), rs, H', ⟨Nat.le_refl _⟩, by repeat (first | exact Drawn0.refl _ | apply Drawn0.step)⟩
 case round =>
  clear H'
  (try clear p2)
  obtain ⟨x8_1, rfl, HA, HK1, ⟨m1, rfl⟩⟩ := hrel
  cases gk with
  | zero => exact absurd HA.out (by simp [slices_IndexFunc_int_int_at_shape_IsType_1.l0])
  | succ k1 =>
   have H := HA.out
   clear HA
   simp only [slices_IndexFunc_int_int_at_shape_IsType_1.l0] at H
   by_cases c3 : x8_1 < (l0.length : Int); rotate_left
   ·rw [if_neg c3] at H
    have c3b0 := dF c3
    clear c3
    obtain rfl := sI H
    go_wp2
    go_ret
    exact ⟨by first | rfl | (simp; done) | (simp [*]; done), by repeat (first | exact Drawn0.refl _ | apply Drawn0.step)⟩
   rw [if_pos c3] at H
   have c3b0 := dT c3
   clear c3
   by_cases c4 : 0 ≤ x8_1; rotate_left
   ·rw [if_neg c4] at H
    cases H
   rw [if_pos c4] at H
   have c4b0 := dT c4
   clear c4
   by_cases c5 : x8_1 < (l0.length : Int); rotate_left
   ·rw [if_neg c5] at H
    cases H
   rw [if_pos c5] at H
   have c5b0 := dT c5
   clear c5
   replace H := bS H
   obtain ⟨t382, A60, H⟩ := H
   (try dsimp only at H)
   have A6 := aS A60
   clear A60
   by_cases c7 : t382 = true
   ·subst c7
    rw [if_pos rfl] at H
    obtain rfl := sI H
    have p381 : 0 ≤ (x8_1 : Int) := oa
    have q381 : x8_1 < (l0.length : Int) := oa
    obtain ⟨ad381, e381, hx381_0⟩ := Kd.at_int HR0.out x8_1 p381 q381
    cases e381
    replace p381 := eq_true p381
    replace q381 := eq_true q381
    go_wp2_with (first | (go_at_call 174; (with_reducible refine (shape_IsType_1.calls (rd l0 x8_1) true _ A6.out).mono ?_); rintro e w' ⟨rfl, ⟨nd, rfl⟩⟩))
    go_ret
    exact ⟨by first | rfl | (simp; done) | (simp [*]; done), by repeat (first | exact Drawn0.refl _ | apply Drawn0.step)⟩
   ·replace c7 := Bool.eq_false_iff.mpr c7
    subst c7
    rw [if_neg iN] at H
    have H' := aS H
    clear H
    have p381 : 0 ≤ (x8_1 : Int) := oa
    have q381 : x8_1 < (l0.length : Int) := oa
    obtain ⟨ad381, e381, hx381_0⟩ := Kd.at_int HR0.out x8_1 p381 q381
    cases e381
    replace p381 := eq_true p381
    replace q381 := eq_true q381
    go_wp2_with (first | (go_at_call 174; (with_reducible refine (shape_IsType_1.calls (rd l0 x8_1) false _ A6.out).mono ?_); rintro e w' ⟨rfl, ⟨nd, rfl⟩⟩))
    go_roundg k1
    case measure => have := HK1.out; omega
    case rel => exact ⟨(wrap64 (x8_1 + 1)), rs, H', ⟨by have := HK1.out; omega⟩, by repeat (first | exact Drawn0.refl _ | apply Drawn0.step)⟩
def slices_ContainsFunc_int_int_at_shape_IsType_1.f (k : Nat) (l0 : List Int)  : Option (Bool) := (slices_IndexFunc_int_int_at_shape_IsType_1.f k l0).bind fun t383 => (some (decide (t383 ≥ 0)))
theorem slices_ContainsFunc_int_int_at_shape_IsType_1.calls (k : Nat) (A0 : Option Addr) (c0 : Nat) (l0 : List Int)  (r : Bool) (w : World) (hr0 : Kd.C (Kd.int .i64) w A0 l0.length l0) (hc0 : l0.length ≤ c0) (h : slices_ContainsFunc_int_int_at_shape_IsType_1.f k l0 = some r) :
 Calls Tryz.prog 173 #[.slice A0 l0.length c0, .func (.func 174) #[] #[]] w fun e w' => e = .returned (.bool r) ∧ Drawn0 w w' := by
 have HR0 := aS hr0
 have HC0 := aS hc0
 clear hr0 hc0
 have H := h
 unfold slices_ContainsFunc_int_int_at_shape_IsType_1.f at H
 clear h
 replace H := bS H
 obtain ⟨t383, A30, H⟩ := H
 (try dsimp only at H)
 have A3 := aS A30
 clear A30
 obtain rfl := sI H
 go_enter Tryz.func173, Tryz.ntmps173
 go_wp2_with (first | ((with_reducible refine gate_callee (f := 210) rfl ?_); refine gl 7 Tryz.func210 #[.slice A0 l0.length c0, .func (.func 174) #[] #[]] ?_; (with_reducible refine (slices_IndexFunc_int_int_at_shape_IsType_1.calls k _ _ l0  t383 _ ?side1 ?side2 A3.out).mono ?_); (case side1 => repeat (first | exact HR0.out | (with_reducible refine Kd.C_alloc ?_ _) | (with_reducible refine Kd.C_drewN ?_ _) | (with_reducible refine Kd.C_drew ?_))); (case side2 => exact HC0.out); rintro e w' ⟨rfl, ⟨nd, rfl⟩⟩; refine ⟨_, rfl, ?_⟩))
 go_ret
 exact ⟨by first | rfl | (simp; done) | (simp [*]; done), by repeat (first | exact Drawn0.refl _ | apply Drawn0.step)⟩
def shape_IsType.j0 : Nat → Bool → Int → Bool → Int → List Int → Option (Bool)
 | 0, _, _, _, _, _ => none
 | k + 1, x3, x8, x9, x385000, x385001 => if x9 = true then (if x3 = true then (some false) else (some (decide ((x385001.length : Int) ≤ 3)))) else (if x8 = 3 then (if x3 = true then (some false) else (some ((x385001.length : Int) == 1))) else (some false))
def shape_IsType.f (k : Nat) (a0_0 : Int) (l0_1 : List Int) : Option (Bool) := (slices_ContainsFunc_int_int_at_shape_IsType_1.f k l0_1).bind fun t385 => (if a0_0 = 1 then (shape_IsType.j0 k t385 a0_0 (a0_0 == 1) a0_0 l0_1) else (shape_IsType.j0 k t385 a0_0 (a0_0 == 2) a0_0 l0_1))
theorem shape_IsType.calls (k : Nat) (a0_0 : Int) (A0_1 : Option Addr) (c0_1 : Nat) (l0_1 : List Int) (r : Bool) (w : World) (hr0_1 : Kd.C (Kd.int .i64) w A0_1 l0_1.length l0_1) (hc0_1 : l0_1.length ≤ c0_1) (h : shape_IsType.f k a0_0 l0_1 = some r) :
 Calls Tryz.prog 139 #[.agg #[.int .i64 a0_0, .slice A0_1 l0_1.length c0_1]] w fun e w' => e = .returned (.bool r) ∧ Below w.heap.size w w' := by
 have hu115 := Tryz.underlying115
 have HR0_1 := aS hr0_1
 have HC0_1 := aS hc0_1
 clear hr0_1 hc0_1
 have HB := aS (Below.refl w.heap.size w)
 have H := h
 unfold shape_IsType.f at H
 clear h
 replace H := bS H
 obtain ⟨t385, A20, H⟩ := H
 (try dsimp only at H)
 have A2 := aS A20
 clear A20
 have HC3 := aS H
 clear H
 go_enter Tryz.func139, Tryz.ntmps139
 go_upto_if 9 with (first | ((with_reducible refine gate_dst (N := 1) rfl ?_); (try (refine gate_guard (by rfl) ?_; dsimp only)); refine bx (N := 1) (cs := #[.int .i64 a0_0, .slice A0_1 l0_1.length c0_1]) (t := 115) ?_; intro gb384 hg w4 hbox hb; have BK384 := aS (hbox); have GW384 := (gz hg HB : Aside0 (w.heap.size ≤ gb384)); have GE384 := (gz hg HB : Aside0 (w.heap.size ≤ gb384)); replace HB := aS (bs_ (bl HB) hb); clear hb hbox hg; obtain ⟨hcz5_0, hcz5_1, hfz5_0, hfz5_1⟩ := cf2 BK384.out) | ((with_reducible refine gate_callee (f := 173) rfl ?_); refine gl 6 Tryz.func173 #[.slice A0_1 l0_1.length c0_1, .func (.func 174) #[] #[]] ?_; (with_reducible refine (slices_ContainsFunc_int_int_at_shape_IsType_1.calls k _ _ l0_1  t385 _ ?side1 ?side2 A2.out).mono ?_); (case side1 => exact cb HR0_1 HB); (case side2 => exact HC0_1.out); rintro e w' ⟨rfl, ⟨nd, rfl⟩⟩; refine ⟨_, rfl, ?_⟩))
 (try simp only [Act.put, List.setIfInBounds_toArray, List.set_cons_zero, List.set_cons_succ])
 go_cut [9] (fun v9 wc => ∃ (kq : Nat) (x9_2 : Bool), v9 = .bool x9_2 ∧ Aside0 (shape_IsType.j0 kq t385 a0_0 x9_2 a0_0 l0_1 = some r) ∧ Aside0 (kq ≤ k) ∧ Aside0 (wc.heap[gb384]? = some (.cells #[.int .i64 a0_0, (.slice A0_1 l0_1.length c0_1)] 115 (0, 0))) ∧ Aside0 (Below w.heap.size w wc))
 case first =>
  have H := HC3.out
  clear HC3
  by_cases c6 : a0_0 = 1
  ·rw [if_pos c6] at H
   have c6b0 := bT c6
   have c6b1 := nF c6
   clear c6
   (first | rw [c6b0] | (simp only [i64_w, i32_w]; rw [c6b0]) | skip)
   have H' := aS H
   clear H
   go_wp2
   go_meet
   case rel => exact ⟨_, ((a0_0 == 1)), rs, H', ⟨by first | omega | exact Nat.le_refl _⟩, ⟨bk BK384⟩, ⟨bl HB⟩⟩
  ·rw [if_neg c6] at H
   have c6b0 := bF c6
   have c6b1 := nT c6
   (first | rw [c6b0] | (simp only [i64_w, i32_w]; rw [c6b0]) | skip)
   have H' := aS H
   clear H
   go_wp2
   go_meet
   case rel => exact ⟨_, ((a0_0 == 2)), rs, H', ⟨by first | omega | exact Nat.le_refl _⟩, ⟨bk BK384⟩, ⟨bl HB⟩⟩
 case rest =>
  clear HC3
  (try clear c1); (try clear p2); (try clear c6); (try clear c6b0); (try clear c6b1); (try clear hcz5_0); (try clear hcz5_1); (try clear hfz5_0); (try clear hfz5_1)
  obtain ⟨kq, x9_2, rfl, HA, HJ2, BK384, HB⟩ := hcut
  cases kq with
  | zero => exact absurd HA.out (by simp [shape_IsType.j0])
  | succ kj2 =>
   have H := HA.out
   clear HA
   simp only [shape_IsType.j0] at H
   by_cases c7 : x9_2 = true
   ·subst c7
    rw [if_pos rfl] at H
    by_cases c8 : t385 = true
    ·subst c8
     rw [if_pos rfl] at H
     obtain rfl := sI H
     go_wp2
     go_ret
     exact ⟨re, bl HB⟩
    ·replace c8 := Bool.eq_false_iff.mpr c8
     subst c8
     rw [if_neg iN] at H
     obtain rfl := sI H
     obtain ⟨_, _, _, _⟩ := cf2 BK384.out
     go_wp2
     go_ret
     exact ⟨re, bl HB⟩
   replace c7 := Bool.eq_false_iff.mpr c7
   subst c7
   rw [if_neg iN] at H
   by_cases c10 : a0_0 = 3; rotate_left
   ·rw [if_neg c10] at H
    have c10b0 := bF c10
    have c10b1 := nT c10
    obtain rfl := sI H
    go_wp2
    go_ret
    exact ⟨re, bl HB⟩
   rw [if_pos c10] at H
   have c10b0 := bT c10
   have c10b1 := nF c10
   clear c10
   by_cases c11 : t385 = true
   ·subst c11
    rw [if_pos rfl] at H
    obtain rfl := sI H
    go_wp2
    go_ret
    exact ⟨re, bl HB⟩
   ·replace c11 := Bool.eq_false_iff.mpr c11
    subst c11
    rw [if_neg iN] at H
    obtain rfl := sI H
    obtain ⟨_, _, _, _⟩ := cf2 BK384.out
    go_wp2
    go_ret
    exact ⟨re, bl HB⟩
def shape_Text.l0 : Nat → ByteArray → List Int → Int → Int → Option (ByteArray × Int)
 | 0, _, _, _, _ => none
 | k + 1, x4, x15, x16, x17 => if x17 < x16 then (if 0 ≤ x17 then (if x17 < (x15.length : Int) then ((strconv_Itoa.f (rd x15 x17)).bind fun t389 => (if 1 + t389.size ≤ 9223372036854775807 then (if ((⟨#[91]⟩ : ByteArray) ++ t389).size + 1 ≤ 9223372036854775807 then (if x4.size + (((⟨#[91]⟩ : ByteArray) ++ t389) ++ (⟨#[93]⟩ : ByteArray)).size ≤ 9223372036854775807 then (shape_Text.l0 k (x4 ++ (((⟨#[91]⟩ : ByteArray) ++ t389) ++ (⟨#[93]⟩ : ByteArray))) x15 x16 (wrap64 (x17 + 1))) else (none)) else (none)) else (none))) else (none)) else (none)) else (some (x4, 0))
def shape_Text.f (k : Nat) (a0_0 : Int) (l0_1 : List Int) : Option (ByteArray × Int) := (shape_IsType.f k a0_0 l0_1).bind fun t387 => (if t387 = true then (if 0 ≤ a0_0 then (if a0_0 < 4 then (shape_Text.l0 k (rdOf ByteArray.empty kindsT a0_0) l0_1 (l0_1.length : Int) 0) else (none)) else (none)) else (some ((⟨#[]⟩ : ByteArray), 5)))
theorem shape_Text.calls (k : Nat) (a0_0 : Int) (A0_1 : Option Addr) (c0_1 : Nat) (l0_1 : List Int) (r1 : ByteArray) (r2 : Int) (w : World) (hG : GW w) (hr0_1 : Kd.C (Kd.int .i64) w A0_1 l0_1.length l0_1) (hc0_1 : l0_1.length ≤ c0_1) (h : shape_Text.f k a0_0 l0_1 = some (r1, r2)) :
 Calls Tryz.prog 104 #[.agg #[.int .i64 a0_0, .slice A0_1 l0_1.length c0_1]] w fun e w' => e = .returned (.tuple #[.string r1, .int .i64 r2]) ∧ Below w.heap.size w w' := by
 have hu115 := Tryz.underlying115
 have HR0_1 := aS hr0_1
 have HC0_1 := aS hc0_1
 clear hr0_1 hc0_1
 have HG := aS hG
 clear hG
 have HB := aS (Below.refl w.heap.size w)
 have H := h
 unfold shape_Text.f at H
 clear h
 replace H := bS H
 obtain ⟨t387, A20, H⟩ := H
 (try dsimp only at H)
 have A2 := aS A20
 clear A20
 by_cases c3 : t387 = true; rotate_left
 ·replace c3 := Bool.eq_false_iff.mpr c3
  subst c3
  rw [if_neg iN] at H
  simp only [Option.some.injEq, Prod.mk.injEq] at H
  obtain ⟨rfl, rfl⟩ := H
  go_enter Tryz.func104, Tryz.ntmps104
  go_wp2_with (first | ((with_reducible refine gate_dst (N := 1) rfl ?_); refine bx (N := 1) (cs := #[.int .i64 a0_0, .slice A0_1 l0_1.length c0_1]) (t := 115) ?_; intro gb386 hg w18 hbox hb; have BK386 := aS (hbox); have GW386 := (gz hg HB : Aside0 (w.heap.size ≤ gb386)); have GE386 := (gz hg HB : Aside0 (w.heap.size ≤ gb386)); replace HB := aS (bs_ (bl HB) hb); clear hb hbox hg; obtain ⟨_, _, _, _⟩ := cf2 BK386.out) | ((with_reducible refine gate_callee (f := 139) rfl ?_); refine gl 8 Tryz.func139 #[.agg #[.int .i64 a0_0, .slice A0_1 l0_1.length c0_1]] ?_; (with_reducible refine (shape_IsType.calls k a0_0 _ _ l0_1 false _ ?side1 ?side2 A2.out).mono ?_); (case side1 => exact cb HR0_1 HB); (case side2 => exact HC0_1.out); rintro e w20 ⟨rfl, hb⟩; refine ⟨_, rfl, ?_⟩; replace BK386 := aS (blk_below (bj BK386) hb); replace HB := aS (bs_ (bl HB) hb); clear hb))
  go_ret2
  exact ⟨re, bl HB⟩
 subst c3
 rw [if_pos rfl] at H
 by_cases c4 : 0 ≤ a0_0; rotate_left
 ·rw [if_neg c4] at H
  cases H
 rw [if_pos c4] at H
 have c4b0 := dT c4
 clear c4
 by_cases c5 : a0_0 < 4; rotate_left
 ·rw [if_neg c5] at H
  cases H
 rw [if_pos c5] at H
 have c5b0 := dT c5
 clear c5
 have H' := aS H
 clear H
 go_enter Tryz.func104, Tryz.ntmps104
 go_wp2_with (first | ((with_reducible refine gate_dst (N := 1) rfl ?_); refine bx (N := 1) (cs := #[.int .i64 a0_0, .slice A0_1 l0_1.length c0_1]) (t := 115) ?_; intro gb386 hg w6 hbox hb; have BK386 := aS (hbox); have GW386 := (gz hg HB : Aside0 (w.heap.size ≤ gb386)); have GE386 := (gz hg HB : Aside0 (w.heap.size ≤ gb386)); replace HB := aS (bs_ (bl HB) hb); clear hb hbox hg; obtain ⟨hcz7_0, hcz7_1, hfz7_0, hfz7_1⟩ := cf2 BK386.out) | ((with_reducible refine gate_callee (f := 139) rfl ?_); refine gl 8 Tryz.func139 #[.agg #[.int .i64 a0_0, .slice A0_1 l0_1.length c0_1]] ?_; (with_reducible refine (shape_IsType.calls k a0_0 _ _ l0_1 true _ ?side1 ?side2 A2.out).mono ?_); (case side1 => exact cb HR0_1 HB); (case side2 => exact HC0_1.out); rintro e w8 ⟨rfl, hb⟩; refine ⟨_, rfl, ?_⟩; replace BK386 := aS (blk_below (bj BK386) hb); replace HB := aS (bs_ (bl HB) hb); clear hb; obtain ⟨hcz9_0, hcz9_1, hfz9_0, hfz9_1⟩ := cf2 BK386.out; have pgt10 : 0 ≤ (a0_0 : Int) := oa; have qgt10 : (a0_0 : Int) < 4 := oa; have hgt10 := gtab1 (GW.below HG.out (HB.out)) pgt10 qgt10; replace pgt10 := eq_true pgt10; replace qgt10 := eq_true qgt10))
 go_loopg [4, 17] k (fun kq v4 v17 w' => ∃ (x4_1 : ByteArray) (x17_1 : Int), v4 = .string x4_1 ∧ v17 = .int .i64 x17_1 ∧ Aside0 (shape_Text.l0 kq x4_1 l0_1 (l0_1.length : Int) x17_1 = some (r1, r2)) ∧ Aside0 (kq ≤ k) ∧ Aside0 (w'.heap[gb386]? = some (.cells #[.int .i64 a0_0, (.slice A0_1 l0_1.length c0_1)] 115 (0, 0))) ∧ Aside0 (Below w.heap.size w w'))
 case atStart => exact ⟨(rdOf ByteArray.empty kindsT a0_0), (0), rs, rs, H', ⟨Nat.le_refl _⟩, ⟨bk BK386⟩, ⟨bl HB⟩⟩
 case round =>
  clear H'
  (try clear c1); (try clear p2); (try clear c3); (try clear c4); (try clear c4b0); (try clear c5); (try clear c5b0); (try clear c10); (try clear hcz7_0); (try clear hcz7_1); (try clear hcz9_0); (try clear hcz9_1); (try clear hfz7_0); (try clear hfz7_1); (try clear hfz9_0); (try clear hfz9_1)
  obtain ⟨x4_1, x17_1, rfl, rfl, HA, HK1, BK386, HB⟩ := hrel
  cases gk with
  | zero => exact absurd HA.out (by simp [shape_Text.l0])
  | succ k1 =>
   have H := HA.out
   clear HA
   simp only [shape_Text.l0] at H
   by_cases c11 : x17_1 < (l0_1.length : Int); rotate_left
   ·rw [if_neg c11] at H
    have c11b0 := dF c11
    clear c11
    simp only [Option.some.injEq, Prod.mk.injEq] at H
    obtain ⟨rfl, rfl⟩ := H
    go_wp2
    go_ret2
    exact ⟨re, bl HB⟩
   rw [if_pos c11] at H
   have c11b0 := dT c11
   clear c11
   by_cases c12 : 0 ≤ x17_1; rotate_left
   ·rw [if_neg c12] at H
    cases H
   rw [if_pos c12] at H
   have c12b0 := dT c12
   clear c12
   by_cases c13 : x17_1 < (l0_1.length : Int); rotate_left
   ·rw [if_neg c13] at H
    cases H
   rw [if_pos c13] at H
   have c13b0 := dT c13
   clear c13
   replace H := bS H
   obtain ⟨t389, A140, H⟩ := H
   (try dsimp only at H)
   have A14 := aS A140
   clear A140
   by_cases c15 : 1 + t389.size ≤ 9223372036854775807; rotate_left
   ·rw [if_neg c15] at H
    cases H
   rw [if_pos c15] at H
   have c15b0 := eq_true c15
   have c15b1 := dT c15
   try have c15b2 : (9223372036854775807 < 1 + t389.size) = False := eq_false (Nat.not_lt.2 c15)
   by_cases c16 : ((⟨#[91]⟩ : ByteArray) ++ t389).size + 1 ≤ 9223372036854775807; rotate_left
   ·rw [if_neg c16] at H
    cases H
   rw [if_pos c16] at H
   have c16b0 := eq_true c16
   have c16b1 := dT c16
   try have c16b2 : (9223372036854775807 < ((⟨#[91]⟩ : ByteArray) ++ t389).size + 1) = False := eq_false (Nat.not_lt.2 c16)
   have c16b3 : (9223372036854775807 < 1 + t389.size + 1) = False := eq_false (by have h_ := c16; simp only [ByteArray.size_append, show (⟨#[91]⟩ : ByteArray).size = 1 from rfl] at h_; omega)
   by_cases c17 : x4_1.size + (((⟨#[91]⟩ : ByteArray) ++ t389) ++ (⟨#[93]⟩ : ByteArray)).size ≤ 9223372036854775807
   ·rw [if_pos c17] at H
    have c17b0 := eq_true c17
    have c17b1 := dT c17
    try have c17b2 : (9223372036854775807 < x4_1.size + (((⟨#[91]⟩ : ByteArray) ++ t389) ++ (⟨#[93]⟩ : ByteArray)).size) = False := eq_false (Nat.not_lt.2 c17)
    have c17b3 : (9223372036854775807 < x4_1.size + (1 + t389.size + 1)) = False := eq_false (by have h_ := c17; simp only [ByteArray.size_append, show (⟨#[91]⟩ : ByteArray).size = 1 from rfl, show (⟨#[93]⟩ : ByteArray).size = 1 from rfl] at h_; omega)
    have H' := aS H
    clear H
    have p388 : 0 ≤ (x17_1 : Int) := oa
    have q388 : x17_1 < (l0_1.length : Int) := oa
    obtain ⟨ad388, e388, hx388_0⟩ := Kd.at_int HR0_1.out x17_1 p388 q388
    cases e388
    replace hx388_0 := xb HB hx388_0
    replace p388 := eq_true p388
    replace q388 := eq_true q388
    go_wp2_with (first | ((with_reducible refine gate_callee (f := 48) rfl ?_); refine gl 23 Tryz.func48 #[.int .i64 (rd l0_1 x17_1)] ?_; (with_reducible refine (strconv_Itoa.calls (rd l0_1 x17_1) t389 _ A14.out).mono ?_); rintro e w' ⟨rfl, ⟨nd, rfl⟩⟩; refine ⟨_, rfl, ?_⟩))
    go_roundg k1
    case measure => have := HK1.out; omega
    case rel => exact ⟨(x4_1 ++ (((⟨#[91]⟩ : ByteArray) ++ t389) ++ (⟨#[93]⟩ : ByteArray))), (wrap64 (x17_1 + 1)), rs, rs, H', ⟨by have := HK1.out; omega⟩, ⟨bk BK386⟩, ⟨bl HB⟩⟩
   ·rw [if_neg c17] at H
    cases H
end Go.Proofs.YtbkknoipgmlcmaaGreatDoor.P

