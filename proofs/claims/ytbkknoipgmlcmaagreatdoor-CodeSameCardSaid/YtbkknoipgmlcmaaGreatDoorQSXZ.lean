import Derived.WalkKit
import Derived.KernelRfl
import Derived.Tactics
import Derived.Test.YtbkknoipgmlcmaaGreatDoorQSXS
namespace Go.Proofs.FX
open Go.RowKit Go.Proofs.YtbkknoipgmlcmaaGreatDoorW.PrintWords Go.Proofs.YtbkknoipgmlcmaaGreatDoorW.PrintLast Go.Proofs.YtbkknoipgmlcmaaGreatDoorW.PrintMore
theorem bl {b b0 : Nat} {u u0 w w0 : World} (h : Aside0 (Below b0 u0 w0)) (m : Below b0 u0 w0 → Below b u w := by intro h_; repeat (first | (with_reducible first | exact h_ | apply below_alloc | apply pw_below_drewN | apply below_drew1 | refine below_set ?_ (Aside0.out (by with_reducible assumption))) | exact h_)) : Below b u w := m h.out
theorem bk {w w0 : World} {g g0 : Nat} {o o0 : Obj} (h : Aside0 (w0.heap[g0]? = some o0)) (m : w0.heap[g0]? = some o0 → w.heap[g]? = some o := by intro h_; (with_reducible repeat (first | refine blk_drewN ?_ _ | refine blk_drew ?_ | refine blk_alloc ?_ _)); exact h_) : w.heap[g]? = some o := m h.out
theorem an {a b c : Nat} (h : a ≠ b) (e : c = a := by first | exact add_block _ _ | rfl) : c ≠ b := e ▸ h
theorem hne {w : World} {a : Addr} {v : Value} {b c : Nat} (hx : w.cell? a = some v) (h : Aside0 (w.heap.size ≤ b)) (e : a.block = c := by first | exact add_block _ _ | rfl) : c ≠ b := Nat.ne_of_lt (e ▸ Nat.lt_of_lt_of_le (World.block_lt_of_cell? _ _ hx) h.out)
theorem gz {g b0 : Nat} {w u u0 w0 : World} (hg : g = u.heap.size) (h : Aside0 (Below b0 u0 w0)) (m : Below b0 u0 w0 → Below w.heap.size w u := by intro h_; repeat (first | (with_reducible first | exact h_ | apply below_alloc | apply pw_below_drewN | apply below_drew1 | refine below_set ?_ (Aside0.out (by with_reducible assumption))) | exact h_)) : Aside0 (w.heap.size ≤ g) := ⟨hg ▸ (m h.out).size⟩
theorem oa {p : Prop} [Decidable p] (h : decide p = true := by first | (with_reducible assumption) | assumption) : p := of_decide_eq_true h
theorem re {α : Sort _} {a b : α} (h : a = b := by first | rfl | (simp [errW_none, errW_some] <;> rfl) | (simp [*, errW_none, errW_some] <;> rfl)) : a = b := h
theorem rs {α : Sort _} {a b : α} (h : a = b := by first | rfl | (simp; done) | (simp [*]; done)) : a = b := h
theorem cb {α : Type} {d : Kd α} {w0 w wb ub : World} {bb : Nat} {A : Option Addr} {n : Nat} {xs : List α} (h : Aside0 (Kd.C d w0 A n xs)) (hB : Aside0 (Below bb ub wb)) (m : Below bb ub wb → Below w0.heap.size w0 w := by intro h_; repeat (first | (with_reducible first | exact h_ | apply below_alloc | apply pw_below_drewN | apply below_drew1 | refine below_set ?_ (Aside0.out (by with_reducible assumption))) | exact h_)) : Kd.C d w A n xs := Kd.C_below h.out (m hB.out)
theorem xb {w w1 : World} {a : Addr} {v : Value} (hB : Aside0 (Below w.heap.size w w1)) (h : w.cell? a = some v) : w1.cell? a = some v := (hB.out.cell (World.block_lt_of_cell? w _ h)).trans h
theorem fB (g : Nat) : ∀ (l : List (Nat × Value)) {w : World} {a : Addr} {v : Value}, a.block ≠ g → w.cell? a = some v → (l.foldl (fun w p => w.setCell ⟨g, p.1, none⟩ p.2) w).cell? a = some v
  | [], _, _, _, _, h => h
  | p :: l, _, _, _, hn, h => fB g l hn ((cell_far (p := ⟨g, p.1, none⟩) hn p.2).trans h)
theorem fA {w : World} {a0 : Addr} {v0 : Value} (_ : w.cell? a0 = some v0) (g : Nat) (l : List (Nat × Value)) : ∀ a v, a.block ≠ g → w.cell? a = some v → (l.foldl (fun w p => w.setCell ⟨g, p.1, none⟩ p.2) w).cell? a = some v := fun _ _ hn h => fB g l hn h
def mk (n m : Nat) : Array Bool := ((List.range n).map fun i => m.testBit i).toArray
section
variable {P : Program} {ops : Array Oper} {a : Act} {Q : Exit → Act → World → Prop} {rest : List Oper} {o : Oper}
theorem bx {W : World} {N : Tmp} {cs : Array Value} {t : TypeId}
    (h : ∀ g, g = W.heap.size → ∀ w1, w1.heap[g]? = some (.cells cs t (0, 0)) → Below W.heap.size W w1 → wpList P ops Q rest (a.put o.dst (.pointer (some ⟨g, 0, none⟩))) w1)
    (hd : o.dst = some N := by rfl) (hgd : o.guard = none := by rfl)
    (hrun : (execOp a.eval o).run P W = .ok (.value (.pointer (some ⟨W.heap.size, 0, none⟩))) (W.alloc (.cells cs t (0, 0))) := by first | (go_simp; done) | (go_simp; rfl)) : wpList P ops Q (o :: rest) a W := box_event hgd hd hrun h
theorem gl {oi : Oper} {w : World} (N : Tmp) {f : FuncId} {fn : Func} {as : Array Operand} {ts : Array TypeId} (hf : P.funcs[f]? = some fn) (args : Array Value)
    (h : Calls P f args w fun e w' => ∃ v, e = .returned v ∧ wpList P ops Q rest (a.put (some N) v) w')
    (hd : oi.dst = some N := by rfl) (hg : oi.guard = none := by rfl) (hname : (fn.name == "runtime.NumGoroutine") = false := by kernel_rfl) (hb : fn.body.isSome = true := by rfl)
    (hop : oi.op = .call { callee := .value (.func f), args := as, argTypes := ts } := by rfl)
    (hargs : as.map a.eval = args := by (try simp only [List.map_toArray, List.map_cons, List.map_nil]); first | done | rfl | (simp only [List.length_drop, List.length_take]; rfl) | (simp only [ByteArray.size_append, Int.toNat_natCast]; rfl)) : wpList P ops Q (oi :: rest) a w := goesL_ (some N) hd hg hf hname hb args hop hargs h
variable {S : World → Prop} {ds : List Nat} {md : Region.Mode}
theorem pu (i N : Nat) {oi : Oper} {v : Value} {fuel : Nat} {l : Array Bool} {w : World} (l' : Array Bool) (hc : anyB md ops l l' i = true) {a' : Act} (h : wpAnyLast P md ops Q S ds fuel l' a' w)
    (hi : ops[i]? = some oi := by rfl) (hN : oi.dst = some N := by rfl) (hQ : ∀ c a w, Q (.panic c) (a.put oi.dst v) w → Q (.panic c) a w := by exact fun _ _ _ h => h)
    (hy : Yields P ops oi v a := by first | exact Or.inr ⟨by rfl, rfl⟩ | exact Or.inl ⟨by rfl, by intro w'; go_simp; with_reducible rfl⟩)
    (ha : a.put (some N) v = a' := by simp only [Act.put, List.setIfInBounds_toArray, List.set_cons_zero, List.set_cons_succ, i64_w, i32_w]; rfl) : wpAnyLast P md ops Q S ds (fuel + 1) l a w := pure_ l' hi hN hc hQ hy ha h
theorem tk (i N : Nat) {oi : Oper} {v : Value} {fuel : Nat} {l : Array Bool} {w : World} (l' : Array Bool) (hc : takeB md ops ds l l' i = true) (hS : S w) {a' : Act} (h : wpAnyLast P md ops Q S ds fuel l' a' w)
    (hi : ops[i]? = some oi := by rfl) (hN : oi.dst = some N := by rfl) (hQ : ∀ c a w, Q (.panic c) (a.put oi.dst v) w → Q (.panic c) a w := by exact fun _ _ _ h => h)
    (hy : YieldsIf P ops S oi v a := by first | exact Or.inr ⟨by rfl, rfl⟩ | exact Or.inl ⟨by rfl, by intro w' hs_; (repeat (obtain ⟨_, hs_⟩ := hs_)); go_simp; with_reducible rfl⟩)
    (ha : a.put (some N) v = a' := by simp only [Act.put, List.setIfInBounds_toArray, List.set_cons_zero, List.set_cons_succ, i64_w, i32_w]; rfl) : wpAnyLast P md ops Q S ds (fuel + 1) l a w := take_ l' hi hN hc hQ hy hS ha h
end
end Go.Proofs.FX

