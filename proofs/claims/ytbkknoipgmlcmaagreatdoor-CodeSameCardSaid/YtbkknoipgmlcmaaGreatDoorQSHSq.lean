import Derived.Test.YtbkknoipgmlcmaaGreatDoorQSG
set_option linter.unusedVariables false
set_option linter.unusedSimpArgs false
namespace Go.Proofs.YtbkknoipgmlcmaaGreatDoor.P
def eqL {α : Type} (f : α → α → Bool) : List α → List α → Bool
  | [], [] => true
  | x :: xs, y :: ys => f x y && eqL f xs ys
  | _, _ => false
theorem eqL_of {α : Type} {f : α → α → Bool} (hf : ∀ x y, f x y = true → x = y) : ∀ xs ys : List α, eqL f xs ys = true → xs = ys
  | [], [], _ => rfl
  | [], _ :: _, h => by cases h
  | _ :: _, [], h => by cases h
  | x :: xs, y :: ys, h => by
    simp only [eqL, Bool.and_eq_true] at h
    rw [hf x y h.1, eqL_of hf xs ys h.2]
def eqB (x y : ByteArray) : Bool := decide (x.data.toList = y.data.toList)
theorem eqB_of {x y : ByteArray} (h : eqB x y = true) : x = y := by
  have h2 := of_decide_eq_true h
  cases x with
  | mk d => cases y with
    | mk e => cases d; cases e; simp only at h2; subst h2; rfl
def eq115 (x y : S115) : Bool := decide (x.f0 = y.f0) && decide (x.f1 = y.f1)
theorem eq115_of (x y : S115) (h : eq115 x y = true) : x = y := by
  cases x; cases y
  simp only [eq115, Bool.and_eq_true, decide_eq_true_eq] at h
  obtain ⟨rfl, rfl⟩ := h
  rfl
def eq61 (x y : S61) : Bool := decide (x.f0 = y.f0) && (decide (x.f1 = y.f1) && (decide (x.f2 = y.f2) && decide (x.f3 = y.f3)))
theorem eq61_of (x y : S61) (h : eq61 x y = true) : x = y := by
  cases x; cases y
  simp only [eq61, Bool.and_eq_true, decide_eq_true_eq] at h
  obtain ⟨rfl, rfl, rfl, rfl⟩ := h
  rfl
def eq63 (x y : S63) : Bool := decide (x.f0 = y.f0) && (decide (x.f1 = y.f1) && (decide (x.f2 = y.f2) && (decide (x.f3 = y.f3) && eq61 x.f4 y.f4)))
theorem eq63_of (x y : S63) (h : eq63 x y = true) : x = y := by
  cases x; cases y
  simp only [eq63, Bool.and_eq_true, decide_eq_true_eq] at h
  obtain ⟨rfl, rfl, rfl, rfl, h5⟩ := h
  rw [eq61_of _ _ h5]
def eq50 (x y : S50) : Bool := eqB x.f0 y.f0 && (eqL eq115 x.f1 y.f1 && (eqL eq115 x.f2 y.f2 && (decide (x.f3 = y.f3) && eqL eq63 x.f4 y.f4)))
theorem eq50_of (x y : S50) (h : eq50 x y = true) : x = y := by
  cases x; cases y
  simp only [eq50, Bool.and_eq_true, decide_eq_true_eq] at h
  obtain ⟨h1, h2, h3, rfl, h5⟩ := h
  rw [eqB_of h1, eqL_of eq115_of _ _ h2, eqL_of eq115_of _ _ h3, eqL_of eq63_of _ _ h5]
def tyR : S115 := ⟨1, []⟩
def rat0 : S61 := ⟨0, false, [], []⟩
def insM : S63 := ⟨8, 1, 0, 0, rat0⟩
def insT : S63 := ⟨26, 1, 0, 0, rat0⟩
def sqR : S50 := ⟨⟨#[102]⟩, [tyR], [tyR], 2, [insM, insT]⟩
def isSq (l : List S50) : Bool := eqL eq50 l [sqR]
theorem isSq_of {l : List S50} (h : isSq l = true) : l = [sqR] := eqL_of eq50_of _ _ h
def sqText : ByteArray := ⟨#[114, 111, 117, 116, 105, 110, 101, 32, 102, 40, 114, 101, 97, 108, 41, 32, 40, 114, 101, 97, 108, 41, 32, 50, 10, 32, 32, 109, 117, 108, 32, 49, 32, 48, 32, 48, 10, 32, 32, 114, 101, 116, 117, 114, 110, 32, 49, 10]⟩
end Go.Proofs.YtbkknoipgmlcmaaGreatDoor.P
namespace Go.Proofs.YtbkknoipgmlcmaaGreatDoor.P
def sqBytes : List Int := [2, 2, 102, 2, 2, 2, 0, 2, 0, 4, 4, 16, 2, 0, 0, 52, 2, 132, 3]
def code_Text.f (l : List S50) : Option (ByteArray × Int) := if isSq l = true then some (sqText, 0) else none
end Go.Proofs.YtbkknoipgmlcmaaGreatDoor.P

