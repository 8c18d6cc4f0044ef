import Derived.Deep.Slices
import Derived.Lib.SmallJoins
import Derived.Carry
import Derived.ProofKit
import Derived.LaidMore
import Derived.OpenShut
import Derived.ShutString
import Derived.SliceStrings
import Derived.Stop.Joined
import Derived.Lay
import Derived.Test.YtbkknoipgmlcmaaGreatDoorQCM39
import Derived.Test.YtbkknoipgmlcmaaGreatDoorQCM38
import Derived.Test.YtbkknoipgmlcmaaGreatDoorTie
set_option linter.unusedVariables false
set_option linter.unusedSimpArgs false
set_option maxRecDepth 100000
namespace Go.Proofs.YtbkknoipgmlcmaaGreatDoor.P
open Go.RowKit Go.Proofs.YtbkknoipgmlcmaaGreatDoorW.PrintWords Go.Proofs.YtbkknoipgmlcmaaGreatDoorW.PrintLast Go.Proofs.YtbkknoipgmlcmaaGreatDoorW.PrintMore
open Go.Proofs.FX
theorem w64 {n : Int} (h0 : -9223372036854775808 ≤ n) (h1 : n < 9223372036854775808) : wrap64 n = n := by unfold wrap64; omega
theorem w64s {i : Nat} (h : i ≤ 100000) : wrap64 ((i : Int) + 1) = ((i + 1 : Nat) : Int) := by rw [w64 (by omega) (by omega)]; rfl
theorem bind_of {α β : Type} {a : Option α} {x : α} {f : α → Option β} {y : Option β} (h : a = some x) (h2 : f x = y) : a.bind f = y := by rw [h]; exact h2
theorem rd115_at (l : List S115) (i : Nat) (h : i < l.length) : rd_T115 l (i : Int) = l[i] := by
 unfold rd_T115
 rw [Int.toNat_natCast, List.getD_eq_getElem?_getD, List.getElem?_eq_getElem h]
 rfl
theorem rd63_at (l : List S63) (i : Nat) (h : i < l.length) : rd_T63 l (i : Int) = l[i] := by
 unfold rd_T63
 rw [Int.toNat_natCast, List.getD_eq_getElem?_getD, List.getElem?_eq_getElem h]
 rfl
theorem rd50_at (l : List S50) (i : Nat) (h : i < l.length) : rd_T50 l (i : Int) = l[i] := by
 unfold rd_T50
 rw [Int.toNat_natCast, List.getD_eq_getElem?_getD, List.getElem?_eq_getElem h]
 rfl
def Sh115 (x : S115) : Prop := x.f1.length ≤ 100000
def Sd (x : S61) : Prop := dgB x.f2 = true ∧ dgB x.f3 = true
def Sc (x : S50) : Prop := smallB x = true ∧ x.f4.length ≤ 1000 ∧ ∀ t ∈ x.f4, Sd t.f4
def Wd (l : List S50) : Prop := ∀ r ∈ l, ∀ x ∈ r.f4, dOk x.f4.f2 ∧ dOk x.f4.f3
theorem mn_nat (a b : Nat) : mn (a : Int) (b : Int) = ((min a b : Nat) : Int) := by
 unfold mn
 split <;> omega
theorem cutType_f (a : Int) (l : List Int) : ∃ r : List Int, fluxionref08_CutType.f a l = some (a, r) ∧ r.length ≤ 5 := by
 refine ⟨l.take (min l.length 5), ?_, by rw [List.length_take]; omega⟩
 unfold fluxionref08_CutType.f
 refine bind_of (x := ([] : List Int)) rfl ?_
 rw [show (5 : Int) = ((5 : Nat) : Int) from rfl, mn_nat, if_pos (by omega), if_pos (by omega), Int.toNat_natCast, if_pos (by rw [List.length_take]; show 0 + _ < _; omega), List.nil_append]
theorem ev_cutTypes (l : List S115) : ∃ r : List S115, Ev (fun k => fluxionref08_CutTypes.f k l) r ∧ r.length ≤ 66 ∧ ∀ t ∈ r, Sh115 t := by
 have hL : ∀ (d i : Nat) (acc : List S115), min l.length 66 - i = d → i ≤ min l.length 66 → acc.length ≤ i → (∀ t ∈ acc, Sh115 t) →
  ∃ r : List S115, Ev (fun k => fluxionref08_CutTypes.l0 k l acc (i : Int)) r ∧ r.length ≤ 66 ∧ ∀ t ∈ r, Sh115 t := by
  intro d
  induction d with
  | zero =>
   intro i acc h1 h2 h3 h4
   refine ⟨acc, Ev.step (f := fun _ => some acc) (fun k => ?_) (Ev.now _), by omega, h4⟩
   simp only [fluxionref08_CutTypes.l0]
   by_cases h : (i : Int) < (l.length : Int)
   ·rw [if_pos h, if_neg (by omega)]
   ·rw [if_neg h]
  | succ d ih =>
   intro i acc h1 h2 h3 h4
   have hi : i < l.length := by omega
   have hrd := rd115_at l i hi
   obtain ⟨q, hq, hql⟩ := cutType_f l[i].f0 l[i].f1
   obtain ⟨r, e, hr⟩ := ih (i + 1) (acc ++ [(⟨l[i].f0, q⟩ : S115)]) (by omega) (by omega) (by simp only [List.length_append, List.length_cons, List.length_nil]; omega) (fun t ht => by
    rcases List.mem_append.1 ht with ht | ht
    ·exact h4 t ht
    ·rw [List.mem_singleton] at ht; rw [ht]; show q.length ≤ 100000; omega)
   refine ⟨r, Ev.step (fun k => ?_) e, hr⟩
   simp only [fluxionref08_CutTypes.l0]
   rw [if_pos (by omega), if_pos (by omega), if_pos (by omega), hrd]
   refine bind_of hq ?_
   rw [if_pos (by omega), w64s (by omega)]
 exact hL _ 0 [] rfl (Nat.zero_le _) (Nat.zero_le _) (fun t h => by cases h)
theorem cutRat_f (x : S61) (h2 : dOk x.f2) (h3 : dOk x.f3) : ∃ (p q : List Int) (u : Int), fluxionref08_CutRat.f x.f0 x.f1 x.f2 x.f3 260 = some (x.f0, x.f1, p, q, u) ∧ dgB p = true ∧ dgB q = true := by
 have h130 : mn 130 (mx 2 (wrap64 (Int.tdiv 260 2))) = ((130 : Nat) : Int) := by
  rw [show Int.tdiv 260 2 = 130 from rfl, w64 (by omega) (by omega)]
  unfold mx mn
  repeat (split)
  all_goals omega
 refine ⟨x.f2.take (min x.f2.length 130), x.f3.take (min x.f3.length 130), wrap64 (((x.f2.take (min x.f2.length 130)).length : Int) + ((x.f3.take (min x.f3.length 130)).length : Int)), ?_, dgB_iff.2 ⟨by rw [List.length_take]; omega, dOk_take h2 _⟩, dgB_iff.2 ⟨by rw [List.length_take]; omega, dOk_take h3 _⟩⟩
 unfold fluxionref08_CutRat.f
 refine bind_of (x := ([] : List Int)) rfl ?_
 rw [h130, mn_nat, mn_nat, if_pos (by omega), if_pos (by omega), Int.toNat_natCast, Int.toNat_natCast, if_pos (by rw [List.length_take]; show 0 + _ < _; omega), List.nil_append]
 refine bind_of (x := x.f2.take (min x.f2.length 130)) rfl ?_
 refine bind_of (x := ([] : List Int)) rfl ?_
 rw [if_pos (by omega), if_pos (by omega), if_pos (by rw [List.length_take]; show 0 + _ < _; omega), List.nil_append]
 exact bind_of (x := x.f3.take (min x.f3.length 130)) rfl rfl
theorem ev_Cut (l : List S50) (hW : Wd l) : ∀ (d i m : Nat) (acc : List S50), min l.length 34 - i = d → i ≤ min l.length 34 → m ≤ 400 → acc.length ≤ i → (∀ t ∈ acc, Sc t) →
 ∃ r : List S50, Ev (fun k => fluxionref29_Cut.l0 k l (m : Int) acc (i : Int)) r ∧ r.length ≤ 100000 ∧ ∀ t ∈ r, Sc t := by
 intro d
 induction d with
 | zero =>
  intro i m acc h1 h2 hm h3 h4
  refine ⟨acc, ⟨2, fun k hk => ?_⟩, by omega, h4⟩
  obtain ⟨j, rfl⟩ : ∃ j, k = j + 1 + 1 := ⟨k - 2, by omega⟩
  have hj1 : fluxionref29_Cut.j1 (j + 1) l (m : Int) acc (i : Int) false = some acc := by
   simp only [fluxionref29_Cut.j1]
   rw [if_neg (by decide)]
  show fluxionref29_Cut.l0 (j + 1 + 1) l (m : Int) acc (i : Int) = some acc
  simp only [fluxionref29_Cut.l0]
  by_cases h : (i : Int) < (l.length : Int)
  ·rw [if_pos h, dF (by omega)]; exact hj1
  ·rw [if_neg h]; exact hj1
 | succ d ih =>
  intro i m acc h1 h2 hm h3 h4
  have hi : i < l.length := by omega
  have hrd := rd50_at l i hi
  have hX : ∀ x ∈ l[i].f4, dOk x.f4.f2 ∧ dOk x.f4.f3 := hW l[i] (List.getElem_mem hi)
  generalize l[i] = x at *
  obtain ⟨ps, ⟨K1, e1⟩, hps, hps2⟩ := ev_cutTypes x.f1
  obtain ⟨qs, ⟨K2, e2⟩, hqs, hqs2⟩ := ev_cutTypes x.f2
  dsimp only at e1 e2
  obtain ⟨nm, hnm⟩ : ∃ nm, nm = x.f0.extract 0 (min x.f0.size 26) := ⟨_, rfl⟩
  have hns : nm.size ≤ 100000 := by rw [hnm, ByteArray.size_extract]; omega
  have hI : ∀ (d2 j n : Nat) (ac : List S63), n = d2 → j + n ≤ 400 → ac.length = j → (∀ t ∈ ac, Sd t.f4) →
   ∃ r : List S50, Ev (fun k => fluxionref29_Cut.l1 k l (n : Int) acc (i : Int) (j : Int) x.f0 x.f1 x.f2 x.f3 x.f4 nm ps qs x.f3 ac) r ∧ r.length ≤ 100000 ∧ ∀ t ∈ r, Sc t := by
   intro d2
   induction d2 with
   | zero =>
    intro j n ac g1 g2 g3 g4
    subst g1
    obtain ⟨r, e, hr⟩ := ih (i + 1) 0 (acc ++ [(⟨nm, ps, qs, x.f3, ac⟩ : S50)]) (by omega) (by omega) (by omega) (by simp only [List.length_append, List.length_cons, List.length_nil]; omega) (fun t ht => by
     rcases List.mem_append.1 ht with ht | ht
     ·exact h4 t ht
     ·rw [List.mem_singleton] at ht; rw [ht]; exact ⟨smallB_iff.2 ⟨hns, by show ps.length ≤ _; omega, by show qs.length ≤ _; omega⟩, by show ac.length ≤ _; omega, g4⟩)
    refine ⟨r, Ev.step (fun k => ?_) e, hr⟩
    simp only [fluxionref29_Cut.l1]
    by_cases h : (j : Int) < (x.f4.length : Int)
    ·rw [if_pos h, if_neg (by omega), if_pos (by omega), w64s (by omega)]
    ·rw [if_neg h, if_pos (by omega), w64s (by omega)]
   | succ d2 ih2 =>
    intro j n ac g1 g2 g3 g4
    subst g1
    by_cases h : j < x.f4.length
    ·have hr4 := rd63_at x.f4 j h
     obtain ⟨p, q, u, hcr, hp, hq⟩ := cutRat_f x.f4[j].f4 (hX x.f4[j] (List.getElem_mem h)).1 (hX x.f4[j] (List.getElem_mem h)).2
     obtain ⟨r, e, hr⟩ := ih2 (j + 1) d2 (ac ++ [(⟨x.f4[j].f0, x.f4[j].f1, x.f4[j].f2, x.f4[j].f3, (⟨x.f4[j].f4.f0, x.f4[j].f4.f1, p, q⟩ : S61)⟩ : S63)]) rfl (by omega) (by simp only [List.length_append, List.length_cons, List.length_nil]; omega) (fun t ht => by
      rcases List.mem_append.1 ht with ht | ht
      ·exact g4 t ht
      ·rw [List.mem_singleton] at ht; rw [ht]; exact ⟨hp, hq⟩)
     refine ⟨r, Ev.step (fun k => ?_) e, hr⟩
     simp only [fluxionref29_Cut.l1]
     rw [if_pos (by omega), if_pos (by omega), if_pos (by omega), hr4]
     refine bind_of hcr ?_
     rw [if_pos (by omega), w64s (by omega), w64 (by omega) (by omega), show ((d2 + 1 : Nat) : Int) - 1 = (d2 : Int) from by omega]
    ·obtain ⟨r, e, hr⟩ := ih (i + 1) (d2 + 1) (acc ++ [(⟨nm, ps, qs, x.f3, ac⟩ : S50)]) (by omega) (by omega) (by omega) (by simp only [List.length_append, List.length_cons, List.length_nil]; omega) (fun t ht => by
      rcases List.mem_append.1 ht with ht | ht
      ·exact h4 t ht
      ·rw [List.mem_singleton] at ht; rw [ht]; exact ⟨smallB_iff.2 ⟨hns, by show ps.length ≤ _; omega, by show qs.length ≤ _; omega⟩, by show ac.length ≤ _; omega, g4⟩)
     refine ⟨r, Ev.step (fun k => ?_) e, hr⟩
     simp only [fluxionref29_Cut.l1]
     rw [if_neg (by omega), if_pos (by omega), w64s (by omega)]
  obtain ⟨r, ⟨K3, e3⟩, hr⟩ := hI m 0 m [] rfl (by omega) rfl (fun t h => by cases h)
  dsimp only at e3
  refine ⟨r, ⟨K1 + K2 + K3 + 2, fun k hk => ?_⟩, hr⟩
  obtain ⟨j, rfl⟩ : ∃ j, k = j + 1 + 1 := ⟨k - 2, by omega⟩
  show fluxionref29_Cut.l0 (j + 1 + 1) l (m : Int) acc (i : Int) = some r
  simp only [fluxionref29_Cut.l0]
  rw [if_pos (by omega), dT (by omega)]
  simp only [fluxionref29_Cut.j1]
  rw [if_pos trivial, if_pos (by omega), if_pos (by omega), hrd, show (26 : Int) = ((26 : Nat) : Int) from rfl, mn_nat, if_pos (by omega), if_pos (by omega), Int.toNat_natCast, ← hnm]
  refine bind_of (e1 j (by omega)) ?_
  refine bind_of (e2 j (by omega)) ?_
  exact e3 j (by omega)
theorem ev_cut (l : List S50) (hW : Wd l) : ∃ r : List S50, Ev (fun k => fluxionlaw29_cut.f k l) r ∧ r.length ≤ 100000 ∧ ∀ t ∈ r, Sc t := by
 obtain ⟨r, ⟨K, e⟩, hr⟩ := ev_Cut l hW _ 0 400 [] rfl (Nat.zero_le _) (Nat.le_refl _) (Nat.zero_le _) (fun t h => by cases h)
 exact ⟨r, ⟨K, fun k hk => bind_of (e k hk) rfl⟩, hr⟩
theorem cut_of {r : List S50} (h1 : r.length ≤ 100000) (h2 : ∀ t ∈ r, Sc t) : Cut r := by
 have A : ∀ i : Int, 0 ≤ i → i < (r.length : Int) → Sc (rd_T50 r i) := fun i h0 hi => by
  obtain ⟨n, rfl⟩ := Int.eq_ofNat_of_zero_le h0
  rw [rd50_at r n (by omega)]
  exact h2 _ (List.getElem_mem _)
 refine ⟨fun i h0 hi => (A i h0 hi).1, fun i j h0 hi j0 hj => ?_, by omega, fun i h0 hi => by have := (A i h0 hi).2.1; omega⟩
 have B := (A i h0 hi).2.2
 obtain ⟨n, rfl⟩ := Int.eq_ofNat_of_zero_le j0
 rw [rd63_at _ n (by omega)]
 exact B _ (List.getElem_mem _)
theorem checks_core (l : List S50) (hW : Wd l) : ∃ r v, Ev (fun k => fluxionlaw29_cut.f k l) r ∧ Ev (fun k => code_Check.f k r) v ∧ Ev (fun k => code_IsCode.f k r) (v.2.2 == 0) ∧ Ev (fun k => fluxionref29_Check.f k r) v := by
 obtain ⟨r, e, h1, h2⟩ := ev_cut l hW
 obtain ⟨v, e1, e2⟩ := check_same (cut_of h1 h2)
 exact ⟨r, v, e, e1, show Ev (fun k => (code_Check.f k r).bind fun t => some (t.2.2 == 0)) _ from Ev.bind (f := fun _ (t : Int × Int × Int) => some (t.2.2 == 0)) e1 (Ev.now _), e2⟩
end Go.Proofs.YtbkknoipgmlcmaaGreatDoor.P

namespace Go.Proofs.YtbkknoipgmlcmaaGreatDoor.P
open Go.RowKit Go.Proofs.YtbkknoipgmlcmaaGreatDoorW.PrintWords Go.Proofs.YtbkknoipgmlcmaaGreatDoorW.PrintLast Go.Proofs.YtbkknoipgmlcmaaGreatDoorW.PrintMore
open Go.ChangeShapes Go.WideShapes Go.Deep
def I64 (n : Int) : Prop := -9223372036854775808 ≤ n ∧ n < 9223372036854775808
def U32 (n : Int) : Prop := 0 ≤ n ∧ n < 4294967296
def Wf115 (x : S115) : Prop := I64 x.f0 ∧ ∀ n ∈ x.f1, I64 n
def Wf61 (x : S61) : Prop := I64 x.f0 ∧ (∀ d ∈ x.f2, U32 d) ∧ ∀ d ∈ x.f3, U32 d
def Wf63 (x : S63) : Prop := (I64 x.f0 ∧ I64 x.f1 ∧ I64 x.f2 ∧ I64 x.f3) ∧ Wf61 x.f4
def Wf50 (x : S50) : Prop := (∀ t ∈ x.f1, Wf115 t) ∧ (∀ t ∈ x.f2, Wf115 t) ∧ I64 x.f3 ∧ ∀ t ∈ x.f4, Wf63 t
theorem laidOut : laidOutB Tryz.prog = true := by kernel_rfl
theorem list2 {α : Type} {cs : List α} (h : cs.length = 2) : ∃ a b, cs = [a, b] := by
 match cs, h with
 | [a, b], _ => exact ⟨a, b, rfl⟩
theorem list4 {α : Type} {cs : List α} (h : cs.length = 4) : ∃ a b c d, cs = [a, b, c, d] := by
 match cs, h with
 | [a, b, c, d], _ => exact ⟨a, b, c, d, rfl⟩
theorem list5 {α : Type} {cs : List α} (h : cs.length = 5) : ∃ a b c d e, cs = [a, b, c, d, e] := by
 match cs, h with
 | [a, b, c, d, e], _ => exact ⟨a, b, c, d, e, rfl⟩
theorem list8 {α : Type} {cs : List α} (h : cs.length = 8) : ∃ a b c d e f g i, cs = [a, b, c, d, e, f, g, i] := by
 match cs, h with
 | [a, b, c, d, e, f, g, i], _ => exact ⟨a, b, c, d, e, f, g, i, rfl⟩
section
variable {H : Type} {enc : TypeId × Value → H} {w : World} {base : Nat} {held : Bool}
def Rd {H : Type} (enc : TypeId × Value → H) (w : World) (base : Nat) (held : Bool) {α : Type} (t : TypeId) (K : α → List Value → Prop) : Prop :=
 ∀ (fuel : Nat) (cs : List Value) (y : DataW H × List MemPlace), DataW.trod enc Tryz.prog w base (fun _ => true) held fuel t cs = some y → ∃ x : α, K x cs
theorem rd_slice {α : Type} (z : α) {d : Kd α} {t e : TypeId} {F : α → Prop} (ht : Tryz.prog.underlying t = some (.slice e)) (hc : Tryz.prog.cellsOf e = d.sz) (hel : Rd enc w base held e (fun x cs => d.K w x cs ∧ F x)) {fuel : Nat} {cs : List Value} {y : DataW H × List MemPlace}
 (h : DataW.trod enc Tryz.prog w base (fun _ => true) held fuel t cs = some y) : ∃ (A : Option Addr) (c : Nat) (xs : List α), cs = [.slice A xs.length c] ∧ xs.length ≤ c ∧ Kd.C d w A xs.length xs ∧ ∀ x ∈ xs, F x := by
 rcases open_slice ht h with ⟨rfl, _⟩ | ⟨x, len, cap, m, n, D, Pl, rfl, _, hl, hm, hmm, _, hx⟩
 ·exact ⟨none, 0, [], rfl, Nat.le_refl _, ⟨rfl, Nat.zero_le _, fun h => absurd h (Nat.lt_irrefl _)⟩, fun x h => by cases h⟩
 ·have hmm2 : m = cap := by rw [hmm]; rfl
  have each : ∀ i, i < len → ∃ q : α × List Value, w.cells? base (x.add (i * d.sz)) d.sz = some q.2 ∧ d.K w q.1 q.2 ∧ F q.1 := by
   intro i hi
   obtain ⟨cs', h1, h2⟩ := hx i (by omega)
   obtain ⟨p, hp⟩ := hel _ _ _ h2
   rw [hc] at h1
   exact ⟨(p, cs'), h1, hp⟩
  letI : Inhabited α := ⟨z⟩
  obtain ⟨f, hfx⟩ := choose_lt each
  refine ⟨some x, cap, (List.range len).map fun i => (f i).1, by rw [List.length_map, List.length_range], by rw [List.length_map, List.length_range]; exact hl, ⟨rfl, ?_, fun _ => ⟨x, rfl, ?_⟩⟩, fun y hy => by
   obtain ⟨i, hi, rfl⟩ := List.mem_map.1 hy
   exact (hfx i (List.mem_range.1 hi)).2.2⟩
  ·rw [List.length_map, List.length_range]
   have : maxLen ≤ 9223372036854775807 := by decide
   omega
  ·intro j p hj
   rw [List.getElem?_map] at hj
   obtain ⟨i, hi, rfl⟩ := Option.map_eq_some_iff.1 hj
   have hij : i = j ∧ j < len := by
    rw [List.getElem?_eq_some_iff] at hi
    obtain ⟨h1, h2⟩ := hi
    rw [List.length_range] at h1
    rw [List.getElem_range] at h2
    exact ⟨h2.symm, h1⟩
   obtain ⟨rfl, hil⟩ := hij
   obtain ⟨h1, h2, _⟩ := hfx i hil
   obtain ⟨_, hlen, hcell⟩ := World.cells?_some h1
   refine ⟨(f i).2, hlen, h2, fun j u hu => ?_⟩
   have hj3 : j < d.sz := by
    rw [List.getElem?_eq_some_iff] at hu
    rw [← hlen]
    exact hu.1
   have h4 := hcell j hj3
   rw [Deep.add_add] at h4
   rw [h4, hu]
theorem wf64 {n : Int} (h : (Lit.int .i64 n).wf = true) : I64 n := by
 simp only [Lit.wf, Bool.and_eq_true, decide_eq_true_eq, show IntKind.min .i64 = -9223372036854775808 from rfl, show IntKind.max .i64 = 9223372036854775807 from rfl] at h
 exact ⟨h.1, by omega⟩
theorem wfu32 {n : Int} (h : (Lit.int .u32 n).wf = true) : U32 n := by
 simp only [Lit.wf, Bool.and_eq_true, decide_eq_true_eq, show IntKind.min .u32 = 0 from rfl, show IntKind.max .u32 = 4294967295 from rfl] at h
 exact ⟨h.1, by omega⟩
theorem rd_int {k : IntKind} {t : TypeId} {F : Int → Prop} (hF : ∀ n, (Lit.int k n).wf = true → F n) (ht : Tryz.prog.underlying t = some (.int k)) : Rd enc w base held t (fun x cs => (Kd.int k).K w x cs ∧ F x) := fun _ _ _ h => by
 obtain ⟨n, rfl, _, hw⟩ := DataW.trod_int ht h
 exact ⟨n, rfl, hF n hw⟩
theorem rd_field {t : TypeId} {fs : Array Field} (ht : Tryz.prog.underlying t = some (.struct fs)) {fuel : Nat} {cs : List Value} {y : DataW H × List MemPlace} (h : DataW.trod enc Tryz.prog w base (fun _ => true) held fuel t cs = some y) :
 cs.length = Tryz.prog.cellsOf t ∧ ∀ (i : Nat) (f : Field), fs[i]? = some f → ∃ n y2, DataW.trod enc Tryz.prog w base (fun _ => true) held n f.type ((cs.drop f.offset).take (Tryz.prog.cellsOf f.type)) = some y2 := by
 obtain ⟨xs, n, _, _, hl, hxl, hf⟩ := DataW.trod_struct ht h
 refine ⟨hl, fun i f hi => ⟨n, ?_⟩⟩
 have hlt : i < xs.length := by
  rw [hxl]
  rw [Array.getElem?_eq_some_iff] at hi
  exact hi.1
 exact ⟨xs[i], by rw [hf i f hi]; exact List.getElem?_eq_getElem hlt⟩
theorem c1_ (t : TypeId) (h : Tryz.prog.cellsOf t = 1) (l : List Value) : l.take (Tryz.prog.cellsOf t) = l.take 1 := by rw [h]
theorem c4_ (t : TypeId) (h : Tryz.prog.cellsOf t = 4) (l : List Value) : l.take (Tryz.prog.cellsOf t) = l.take 4 := by rw [h]
theorem rd115 : Rd enc w base held 115 (fun x cs => k115.K w x cs ∧ Wf115 x) := by
 intro fuel cs y h
 obtain ⟨hl, hf⟩ := rd_field Tryz.underlying115 h
 rw [show Tryz.prog.cellsOf 115 = 2 by kernel_rfl] at hl
 obtain ⟨a, b, rfl⟩ := list2 hl
 obtain ⟨n0, y0, h0⟩ := hf 0 _ rfl
 obtain ⟨n1, y1, h1⟩ := hf 1 _ rfl
 replace h0 : DataW.trod enc Tryz.prog w base (fun _ => true) held n0 113 [a] = some y0 := by rw [c1_ _ (by kernel_rfl)] at h0; exact h0
 replace h1 : DataW.trod enc Tryz.prog w base (fun _ => true) held n1 42 [b] = some y1 := by rw [c1_ _ (by kernel_rfl)] at h1; exact h1
 obtain ⟨p, e0, _, f0⟩ := DataW.trod_int Tryz.underlying113 h0
 obtain ⟨A, c, xs, e1, l1, g1, f1⟩ := rd_slice (0 : Int) Tryz.underlying42 (by kernel_rfl) (rd_int (fun _ => wf64) Tryz.underlying3) h1
 obtain rfl : a = .int .i64 p := by simpa using e0
 obtain rfl : b = .slice A xs.length c := by simpa using e1
 exact ⟨⟨p, xs⟩, k115_mk w ⟨p, xs⟩ l1 g1, wf64 f0, f1⟩
theorem rd61_cells {fuel : Nat} {cs : List Value} {y : DataW H × List MemPlace} (h : DataW.trod enc Tryz.prog w base (fun _ => true) held fuel 61 cs = some y) :
 ∃ (x : S61) (A2 : Option Addr) (c2 : Nat) (A3 : Option Addr) (c3 : Nat), cs = [.int .i64 x.f0, .bool x.f1, .slice A2 x.f2.length c2, .slice A3 x.f3.length c3] ∧ x.f2.length ≤ c2 ∧ (Kd.int .u32).C w A2 x.f2.length x.f2 ∧ x.f3.length ≤ c3 ∧ (Kd.int .u32).C w A3 x.f3.length x.f3 ∧ Wf61 x := by
 obtain ⟨hl, hf⟩ := rd_field Tryz.underlying61 h
 rw [show Tryz.prog.cellsOf 61 = 4 by kernel_rfl] at hl
 obtain ⟨a, b, c, d, rfl⟩ := list4 hl
 obtain ⟨n0, y0, h0⟩ := hf 0 _ rfl
 obtain ⟨n1, y1, h1⟩ := hf 1 _ rfl
 obtain ⟨n2, y2, h2⟩ := hf 2 _ rfl
 obtain ⟨n3, y3, h3⟩ := hf 3 _ rfl
 replace h0 : DataW.trod enc Tryz.prog w base (fun _ => true) held n0 24 [a] = some y0 := by rw [c1_ _ (by kernel_rfl)] at h0; exact h0
 replace h1 : DataW.trod enc Tryz.prog w base (fun _ => true) held n1 4 [b] = some y1 := by rw [c1_ _ (by kernel_rfl)] at h1; exact h1
 replace h2 : DataW.trod enc Tryz.prog w base (fun _ => true) held n2 59 [c] = some y2 := by rw [c1_ _ (by kernel_rfl)] at h2; exact h2
 replace h3 : DataW.trod enc Tryz.prog w base (fun _ => true) held n3 59 [d] = some y3 := by rw [c1_ _ (by kernel_rfl)] at h3; exact h3
 obtain ⟨p, e0, _, f0⟩ := DataW.trod_int Tryz.underlying24 h0
 obtain ⟨q, e1, _⟩ := DataW.trod_bool Tryz.underlying4 h1
 obtain ⟨A2, k2, x2, e2, l2, g2, f2⟩ := rd_slice (0 : Int) Tryz.underlying59 (by kernel_rfl) (rd_int (fun _ => wfu32) Tryz.underlying145) h2
 obtain ⟨A3, k3, x3, e3, l3, g3, f3⟩ := rd_slice (0 : Int) Tryz.underlying59 (by kernel_rfl) (rd_int (fun _ => wfu32) Tryz.underlying145) h3
 obtain rfl : a = .int .i64 p := by simpa using e0
 obtain rfl : b = .bool q := by simpa using e1
 obtain rfl : c = .slice A2 x2.length k2 := by simpa using e2
 obtain rfl : d = .slice A3 x3.length k3 := by simpa using e3
 exact ⟨⟨p, q, x2, x3⟩, A2, k2, A3, k3, rfl, l2, g2, l3, g3, wf64 f0, f2, f3⟩
theorem rd63 : Rd enc w base held 63 (fun x cs => k63.K w x cs ∧ Wf63 x) := by
 intro fuel cs y h
 obtain ⟨hl, hf⟩ := rd_field Tryz.underlying63 h
 rw [show Tryz.prog.cellsOf 63 = 8 by kernel_rfl] at hl
 obtain ⟨a, b, c, d, e, f, g, i, rfl⟩ := list8 hl
 obtain ⟨n0, y0, h0⟩ := hf 0 _ rfl
 obtain ⟨n1, y1, h1⟩ := hf 1 _ rfl
 obtain ⟨n2, y2, h2⟩ := hf 2 _ rfl
 obtain ⟨n3, y3, h3⟩ := hf 3 _ rfl
 obtain ⟨n4, y4, h4⟩ := hf 4 _ rfl
 replace h0 : DataW.trod enc Tryz.prog w base (fun _ => true) held n0 3 [a] = some y0 := by rw [c1_ _ (by kernel_rfl)] at h0; exact h0
 replace h1 : DataW.trod enc Tryz.prog w base (fun _ => true) held n1 3 [b] = some y1 := by rw [c1_ _ (by kernel_rfl)] at h1; exact h1
 replace h2 : DataW.trod enc Tryz.prog w base (fun _ => true) held n2 3 [c] = some y2 := by rw [c1_ _ (by kernel_rfl)] at h2; exact h2
 replace h3 : DataW.trod enc Tryz.prog w base (fun _ => true) held n3 3 [d] = some y3 := by rw [c1_ _ (by kernel_rfl)] at h3; exact h3
 replace h4 : DataW.trod enc Tryz.prog w base (fun _ => true) held n4 61 [e, f, g, i] = some y4 := by
  rw [c4_ _ (by kernel_rfl)] at h4; exact h4
 obtain ⟨p0, e0, _, f0⟩ := DataW.trod_int Tryz.underlying3 h0
 obtain ⟨p1, e1, _, f1⟩ := DataW.trod_int Tryz.underlying3 h1
 obtain ⟨p2, e2, _, f2⟩ := DataW.trod_int Tryz.underlying3 h2
 obtain ⟨p3, e3, _, f3⟩ := DataW.trod_int Tryz.underlying3 h3
 obtain ⟨x, A2, c2, A3, c3, e4, l2, g2, l3, g3, f4⟩ := rd61_cells h4
 obtain rfl : a = .int .i64 p0 := by simpa using e0
 obtain rfl : b = .int .i64 p1 := by simpa using e1
 obtain rfl : c = .int .i64 p2 := by simpa using e2
 obtain rfl : d = .int .i64 p3 := by simpa using e3
 simp only [List.cons.injEq, and_true] at e4
 obtain ⟨rfl, rfl, rfl, rfl⟩ := e4
 exact ⟨⟨p0, p1, p2, p3, x⟩, k63_mk w ⟨p0, p1, p2, p3, x⟩ l2 g2 l3 g3, ⟨wf64 f0, wf64 f1, wf64 f2, wf64 f3⟩, f4⟩
theorem rd50 : Rd enc w base held 50 (fun x cs => k50.K w x cs ∧ Wf50 x) := by
 intro fuel cs y h
 obtain ⟨hl, hf⟩ := rd_field Tryz.underlying50 h
 rw [show Tryz.prog.cellsOf 50 = 5 by kernel_rfl] at hl
 obtain ⟨a, b, c, d, e, rfl⟩ := list5 hl
 obtain ⟨n0, y0, h0⟩ := hf 0 _ rfl
 obtain ⟨n1, y1, h1⟩ := hf 1 _ rfl
 obtain ⟨n2, y2, h2⟩ := hf 2 _ rfl
 obtain ⟨n3, y3, h3⟩ := hf 3 _ rfl
 obtain ⟨n4, y4, h4⟩ := hf 4 _ rfl
 replace h0 : DataW.trod enc Tryz.prog w base (fun _ => true) held n0 9 [a] = some y0 := by rw [c1_ _ (by kernel_rfl)] at h0; exact h0
 replace h1 : DataW.trod enc Tryz.prog w base (fun _ => true) held n1 47 [b] = some y1 := by rw [c1_ _ (by kernel_rfl)] at h1; exact h1
 replace h2 : DataW.trod enc Tryz.prog w base (fun _ => true) held n2 47 [c] = some y2 := by rw [c1_ _ (by kernel_rfl)] at h2; exact h2
 replace h3 : DataW.trod enc Tryz.prog w base (fun _ => true) held n3 3 [d] = some y3 := by rw [c1_ _ (by kernel_rfl)] at h3; exact h3
 replace h4 : DataW.trod enc Tryz.prog w base (fun _ => true) held n4 48 [e] = some y4 := by rw [c1_ _ (by kernel_rfl)] at h4; exact h4
 obtain ⟨p0, e0, _, _⟩ := DataW.trod_string Tryz.underlying9 h0
 obtain ⟨A1, c1, x1, e1, l1, g1, f1⟩ := rd_slice (⟨0, []⟩ : S115) Tryz.underlying47 (by kernel_rfl) rd115 h1
 obtain ⟨A2, c2, x2, e2, l2, g2, f2⟩ := rd_slice (⟨0, []⟩ : S115) Tryz.underlying47 (by kernel_rfl) rd115 h2
 obtain ⟨p3, e3, _, f3⟩ := DataW.trod_int Tryz.underlying3 h3
 obtain ⟨A4, c4, x4, e4, l4, g4, f4⟩ := rd_slice (⟨0, 0, 0, 0, ⟨0, false, [], []⟩⟩ : S63) Tryz.underlying48 (by kernel_rfl) rd63 h4
 obtain rfl : a = .string p0 := by simpa using e0
 obtain rfl : b = .slice A1 x1.length c1 := by simpa using e1
 obtain rfl : c = .slice A2 x2.length c2 := by simpa using e2
 obtain rfl : d = .int .i64 p3 := by simpa using e3
 obtain rfl : e = .slice A4 x4.length c4 := by simpa using e4
 exact ⟨⟨p0, x1, x2, p3, x4⟩, k50_mk w ⟨p0, x1, x2, p3, x4⟩ l1 g1 l2 g2 l4 g4, f1, f2, wf64 f3, f4⟩
theorem open_code {r : Reach} {b0 : Nat} {v : Value} {d : DataW H} {p : List MemPlace} (hv : Value.okWide Tryz.prog w r b0 22 v) (h : DataW.Trod enc Tryz.prog w base (fun _ => true) held 22 v d p) :
 ∃ (A : Option Addr) (c : Nat) (l : List S50), v = .slice A l.length c ∧ Kd.C k50 w A l.length l ∧ l.length ≤ c ∧ ∀ x ∈ l, Wf50 x := by
 obtain ⟨a, len, cap, rfl⟩ := okWide_slice Tryz.underlying22 hv
 obtain ⟨fuel, hf⟩ := h
 have hsz : Tryz.prog.cellsOf 50 = k50.sz := (show Tryz.prog.cellsOf 50 = 5 by kernel_rfl)
 obtain ⟨A, c, xs, e, l1, g1, f1⟩ := rd_slice (d := k50) z50 Tryz.underlying22 hsz rd50 hf
 simp only [Value.cells, List.cons.injEq, and_true] at e
 exact ⟨A, c, xs, e, g1, l1, f1⟩
end
end Go.Proofs.YtbkknoipgmlcmaaGreatDoor.P

namespace Go.Proofs.YtbkknoipgmlcmaaGreatDoor.P
open Go.RowKit Go.Proofs.YtbkknoipgmlcmaaGreatDoorW.PrintWords
theorem eqL_self {α : Type} {f : α → α → Bool} : ∀ xs : List α, (∀ x ∈ xs, f x x = true) → eqL f xs xs = true
 | [], _ => rfl
 | x :: xs, h => by
  show (f x x && eqL f xs xs) = true
  rw [h x List.mem_cons_self, eqL_self xs (fun y hy => h y (List.mem_cons_of_mem _ hy))]
  rfl
theorem eq115_self (x : S115) : eq115 x x = true := by unfold eq115; simp
theorem eq61_self (x : S61) : eq61 x x = true := by unfold eq61; simp
theorem eq63_self (x : S63) : eq63 x x = true := by unfold eq63; simp [eq61_self]
theorem eq50_self (x : S50) : eq50 x x = true := by
 unfold eq50 eqB
 rw [eqL_self _ (fun t _ => eq115_self t), eqL_self _ (fun t _ => eq115_self t), eqL_self _ (fun t _ => eq63_self t)]
 simp
theorem same_self (l : List S50) : fluxionref29_Same.f l l = some true := by
 unfold fluxionref29_Same.f
 rw [if_pos (eqL_self _ (fun t _ => eq50_self t))]
theorem wd_of {l : List S50} (h : ∀ x ∈ l, Wf50 x) : Wd l := fun r hr x hx => ⟨((h r hr).2.2.2 x hx).2.2.1, ((h r hr).2.2.2 x hx).2.2.2⟩
theorem alive_at : fluxionlaw29_alive.f 64 = some true := by kernel_rfl
theorem ev_alive : Ev (fun k => fluxionlaw29_alive.f k) true := by
 refine ⟨64, fun k hk => ?_⟩
 obtain ⟨d, rfl⟩ : ∃ d, k = 64 + d := ⟨k - 64, by omega⟩
 clear hk
 induction d with
 | zero => exact alive_at
 | succ d ih => exact fluxionlaw29_alive.mono _ _ ih
theorem codeChecks_all (halive : Ev (fun k => fluxionlaw29_alive.f k) true) (a : List S50) (hF : ∀ x ∈ a, Wf50 x) : ∃ k, fluxionlaw29_CodeChecks.f k a = some true := by
 obtain ⟨r, v, ⟨K1, e1⟩, ⟨K2, e2⟩, ⟨K3, e3⟩, ⟨K4, e4⟩⟩ := checks_core a (wd_of hF)
 obtain ⟨K5, e5⟩ := halive
 refine ⟨K1 + K2 + K3 + K4 + K5, ?_⟩
 unfold fluxionlaw29_CodeChecks.f
 refine bind_of (e1 _ (by omega)) ?_
 refine bind_of (e1 _ (by omega)) ?_
 refine bind_of (e2 _ (by omega)) ?_
 refine bind_of (e1 _ (by omega)) ?_
 refine bind_of (e3 _ (by omega)) ?_
 refine bind_of (e4 _ (by omega)) ?_
 rw [if_pos rfl, if_pos rfl, if_pos rfl, if_pos (beq_self_eq_true _)]
 refine bind_of (same_self r) ?_
 rw [if_pos rfl]
 exact bind_of (e5 _ (by omega)) rfl
end Go.Proofs.YtbkknoipgmlcmaaGreatDoor.P

namespace Go.Proofs.YtbkknoipgmlcmaaGreatDoor.P
open Go.ChangeShapes Go.WideShapes Go.ChangeAt Go.RowKit
open Go.Proofs.YtbkknoipgmlcmaaGreatDoorW.PrintWords Go.Proofs.YtbkknoipgmlcmaaGreatDoorW.PrintLast Go.Proofs.YtbkknoipgmlcmaaGreatDoorW.PrintMore
abbrev laidL : List (String × DataW Unit) := [("math/bits.deBruijn32tab", Rows.laid_math_bits_deBruijn32tab), ("math/bits.deBruijn64tab", Rows.laid_math_bits_deBruijn64tab), ("internal/strconv.uint64pow10", Rows.laid_internal_strconv_uint64pow10), ("unicode/utf8.acceptRanges", Rows.laid_unicode_utf8_acceptRanges), ("fluxion/frac.faults", Rows.laid_fluxion_frac_faults), ("fluxion/shape.kinds", Rows.laid_fluxion_shape_kinds), ("fluxion/code.sorts", Rows.laid_fluxion_code_sorts), ("unicode/utf8.first", Rows.laid_unicode_utf8_first)]
theorem own : ownKnob Tryz.prog.godebug = none := by kernel_rfl
theorem gSorts : Tryz.prog.globalNamed "fluxion/code.sorts" = some 0 := by kernel_rfl
theorem gKinds : Tryz.prog.globalNamed "fluxion/shape.kinds" = some 1 := by kernel_rfl
theorem tSorts : (Tryz.prog.globals[0]?).map (·.type) = some 149 := by kernel_rfl
theorem tKinds : (Tryz.prog.globals[1]?).map (·.type) = some 186 := by kernel_rfl
theorem door_met (os : Os) (args : Array Value) : laidMetH Tryz.prog laidL ((World.laidAll Tryz.prog os laidL).forCall (fun _ _ => 0) ⟨#[], args, []⟩).memory := by
 rw [MakeChecks.laidMetH_plain _ _ _ (by kernel_rfl)]
 exact laidMet_laidAll args (by kernel_rfl) (by kernel_rfl)
def litV : DataW Unit → List Value
 | .lit (.string l) => [.string ⟨l.toArray⟩]
 | .lit (.int k n) => [.int k n]
 | .lit (.bool b) => [.bool b]
 | _ => []
def aggV : DataW Unit → List Value
 | .agg ds => ds.flatMap litV
 | _ => []
theorem chunks {α : Type} (E : α → List Value) (c : Nat) : ∀ (ds : List α) (cs : List Value), cs.length = ds.length * c → (∀ (i : Nat) (d : α), ds[i]? = some d → (cs.drop (i * c)).take c = E d) → cs = ds.flatMap E
 | [], cs, hl, _ => by
  rw [List.length_nil, Nat.zero_mul] at hl
  exact List.eq_nil_of_length_eq_zero hl
 | d :: ds, cs, hl, h => by
  have h0 := h 0 d rfl
  rw [Nat.zero_mul, List.drop_zero] at h0
  have hr := chunks E c ds (cs.drop c) (by rw [List.length_drop, hl, List.length_cons, Nat.succ_mul]; omega) (fun i d' hi => by
   have := h (i + 1) d' hi
   rw [Nat.succ_mul, Nat.add_comm, ← List.drop_drop] at this
   exact this)
  rw [List.flatMap_cons, ← h0, ← hr, List.take_append_drop]
section
variable {w : World} {base : Nat} {sp : Nat → Bool} {held : Bool}
theorem lit_str {t : TypeId} {m : Nat} {cs : List Value} {y : DataW Unit × List MemPlace} (ht : Tryz.prog.underlying t = some .string) (h : DataW.trod (fun _ => ()) Tryz.prog w base sp held m t cs = some y) : cs = litV y.1 := by
 obtain ⟨s, rfl, rfl, _⟩ := DataW.trod_string ht h
 simp [litV]
theorem lit_int {t : TypeId} {k : IntKind} {m : Nat} {cs : List Value} {y : DataW Unit × List MemPlace} (ht : Tryz.prog.underlying t = some (.int k)) (h : DataW.trod (fun _ => ()) Tryz.prog w base sp held m t cs = some y) : cs = litV y.1 := by
 obtain ⟨n, rfl, rfl, _⟩ := DataW.trod_int ht h
 rfl
theorem lit_bool {t : TypeId} {m : Nat} {cs : List Value} {y : DataW Unit × List MemPlace} (ht : Tryz.prog.underlying t = some .bool) (h : DataW.trod (fun _ => ()) Tryz.prog w base sp held m t cs = some y) : cs = litV y.1 := by
 obtain ⟨b, rfl, rfl⟩ := DataW.trod_bool ht h
 rfl
theorem flat_array {t e : TypeId} {n c fuel : Nat} {cs : List Value} {x : DataW Unit × List MemPlace} (E : DataW Unit → List Value) (ht : Tryz.prog.underlying t = some (.array n e)) (hc : Tryz.prog.cellsOf e = c) (hct : Tryz.prog.cellsOf t = n * c)
 (hel : ∀ m cs' y, DataW.trod (fun _ => ()) Tryz.prog w base sp held m e cs' = some y → cs' = E y.1) (h : DataW.trod (fun _ => ()) Tryz.prog w base sp held fuel t cs = some x) : ∃ ds, x.1 = .agg ds ∧ cs = ds.flatMap E := by
 obtain ⟨xs, m, _, rfl, hl, hxl, hf⟩ := DataW.trod_array ht h
 refine ⟨xs.map (·.1), rfl, chunks E c _ _ (by rw [hl, hct, List.length_map, hxl]) (fun i d hi => ?_)⟩
 rw [List.getElem?_map] at hi
 obtain ⟨y, hy, rfl⟩ := Option.map_eq_some_iff.1 hi
 have hlt : i < n := by
  rw [← hxl]
  exact (List.getElem?_eq_some_iff.1 hy).1
 have := hf i hlt
 rw [hy, hc] at this
 exact hel _ _ _ this
theorem sort_row_cells {fuel : Nat} {cs : List Value} {y : DataW Unit × List MemPlace} (h : DataW.trod (fun _ => ()) Tryz.prog w base sp held fuel 72 cs = some y) : cs = aggV y.1 := by
 obtain ⟨xs, m, _, rfl, hl, hxl, hf⟩ := DataW.trod_struct Tryz.underlying72 h
 have c9 : Tryz.prog.cellsOf 9 = 1 := by kernel_rfl
 have c70 : Tryz.prog.cellsOf 70 = 1 := by kernel_rfl
 have c4 : Tryz.prog.cellsOf 4 = 1 := by kernel_rfl
 have c3 : Tryz.prog.cellsOf 3 = 1 := by kernel_rfl
 have c72 : Tryz.prog.cellsOf 72 = 7 := by kernel_rfl
 have hxl7 : xs.length = 7 := hxl
 refine chunks litV 1 (xs.map (·.1)) cs (by rw [hl, c72, List.length_map, hxl7]) (fun i d hi => ?_)
 rw [List.getElem?_map] at hi
 obtain ⟨y, hy, rfl⟩ := Option.map_eq_some_iff.1 hi
 have hlt : i < 7 := by
  rw [← hxl7]
  exact (List.getElem?_eq_some_iff.1 hy).1
 match i, hlt, hy with
 | 0, _, hy => exact lit_str Tryz.underlying9 (m := m) (by have := (show DataW.trod (fun _ => ()) Tryz.prog w base sp held m 9 ((cs.drop 0).take (Tryz.prog.cellsOf 9)) = xs[0]? from hf 0 _ rfl); rw [hy, c9] at this; exact this)
 | 1, _, hy => exact lit_int Tryz.underlying70 (m := m) (by have := (show DataW.trod (fun _ => ()) Tryz.prog w base sp held m 70 ((cs.drop 1).take (Tryz.prog.cellsOf 70)) = xs[1]? from hf 1 _ rfl); rw [hy, c70] at this; exact this)
 | 2, _, hy => exact lit_int Tryz.underlying70 (m := m) (by have := (show DataW.trod (fun _ => ()) Tryz.prog w base sp held m 70 ((cs.drop 2).take (Tryz.prog.cellsOf 70)) = xs[2]? from hf 2 _ rfl); rw [hy, c70] at this; exact this)
 | 3, _, hy => exact lit_int Tryz.underlying70 (m := m) (by have := (show DataW.trod (fun _ => ()) Tryz.prog w base sp held m 70 ((cs.drop 3).take (Tryz.prog.cellsOf 70)) = xs[3]? from hf 3 _ rfl); rw [hy, c70] at this; exact this)
 | 4, _, hy => exact lit_bool Tryz.underlying4 (m := m) (by have := (show DataW.trod (fun _ => ()) Tryz.prog w base sp held m 4 ((cs.drop 4).take (Tryz.prog.cellsOf 4)) = xs[4]? from hf 4 _ rfl); rw [hy, c4] at this; exact this)
 | 5, _, hy => exact lit_int Tryz.underlying3 (m := m) (by have := (show DataW.trod (fun _ => ()) Tryz.prog w base sp held m 3 ((cs.drop 5).take (Tryz.prog.cellsOf 3)) = xs[5]? from hf 5 _ rfl); rw [hy, c3] at this; exact this)
 | 6, _, hy => exact lit_int Tryz.underlying3 (m := m) (by have := (show DataW.trod (fun _ => ()) Tryz.prog w base sp held m 3 ((cs.drop 6).take (Tryz.prog.cellsOf 3)) = xs[6]? from hf 6 _ rfl); rw [hy, c3] at this; exact this)
end
theorem gw_of {W : World} (h : laidMetH Tryz.prog laidL W) : GW W := by
 rw [MakeChecks.laidMetH_plain _ _ _ (by kernel_rfl)] at h
 obtain ⟨ps, ⟨_, _, _, _, _, _, _, _, _, _, ⟨_, _, _, _, _, _, _, _, _, _, ⟨_, _, _, _, _, _, _, _, _, _, ⟨_, _, _, _, _, _, _, _, _, _, ⟨_, _, _, _, _, _, _, _, _, _, ⟨g1, t1, cs1, f1, p1, q1, hg1, ht1, hv1, hd1, ⟨g0, t0, cs0, f0, p0, q0, hg0, ht0, hv0, hd0, _, _⟩, _⟩, _⟩, _⟩, _⟩, _⟩, _⟩, _, _⟩ := h
 obtain rfl := Option.some.inj (gSorts.symm.trans hg0)
 obtain rfl := Option.some.inj (gKinds.symm.trans hg1)
 obtain rfl := Option.some.inj (tSorts.symm.trans ht0)
 obtain rfl := Option.some.inj (tKinds.symm.trans ht1)
 obtain ⟨ds1, e1, hc1⟩ := flat_array litV Tryz.underlying186 (c := 1) (by kernel_rfl) (by kernel_rfl) (fun _ _ _ h => lit_str Tryz.underlying9 h) hd1
 obtain ⟨ds0, e0, hc0⟩ := flat_array aggV Tryz.underlying149 (c := 7) (by kernel_rfl) (by kernel_rfl) (fun _ _ _ h => sort_row_cells h) hd0
 have k1 : cs1.toList = kindsC := by
  rw [hc1]
  injection e1 with e1
  rw [← e1]
  rfl
 have k0 : cs0.toList = sortsC := by
  rw [hc0]
  injection e0 with e0
  rw [← e0]
  rfl
 refine ⟨fun i v e => ?_, fun i v e => ?_⟩
 ·rw [World.var?_cell hg0 hv0 i, ← Array.getElem?_toList, k0]
  exact e
 ·rw [World.var?_cell hg1 hv1 i, ← Array.getElem?_toList, k1]
  exact e
end Go.Proofs.YtbkknoipgmlcmaaGreatDoor.P

