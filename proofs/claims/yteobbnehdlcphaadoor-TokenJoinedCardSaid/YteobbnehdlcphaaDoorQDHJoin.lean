import Derived.Test.YteobbnehdlcphaaDoorQDP5
import Derived.Test.YteobbnehdlcphaaDoorQDG
import Derived.Test.YteobbnehdlcphaaDoorQDHBuild
namespace Go.Proofs.YteobbnehdlcphaaDoor.P
open Go.RowKit Go.Proofs.YteobbnehdlcphaaDoorW.PrintWords Go.Proofs.YteobbnehdlcphaaDoorW.PrintLast Go.Proofs.YteobbnehdlcphaaDoorW.PrintMore
open Go.Proofs.FX
attribute [local go_sem] cell_twice
set_option linter.unusedVariables false
set_option linter.unusedSimpArgs false
def token_join.l0 : Nat → List S44 → List UInt8 → S44 → Int → Option ByteArray
  | 0, _, _, _, _ => none
  | k + 1, l, o, la, i => if i < (l.length : Int) then (if 0 ≤ i then
      (if (rd_T44 l i).f0 = 5 then token_join.l0 k l o la (wrap64 (i + 1)) else
        ((token_apart.f k la.f0 la.f1 la.f2 (rd_T44 l i).f0 (rd_T44 l i).f1 (rd_T44 l i).f2).bind fun t =>
          if t = true then (if o.length + 1 + (rd_T44 l i).f1.size ≤ 140737488355328 then token_join.l0 k l (o ++ [32] ++ (rd_T44 l i).f1.data.toList) (rd_T44 l i) (wrap64 (i + 1)) else none)
          else (if o.length + (rd_T44 l i).f1.size ≤ 140737488355328 then token_join.l0 k l (o ++ (rd_T44 l i).f1.data.toList) (rd_T44 l i) (wrap64 (i + 1)) else none))) else none)
    else some ⟨o.toArray⟩
def token_join.f (k : Nat) (l0 : List S44) : Option ByteArray := token_join.l0 k l0 [] ⟨5, ⟨#[]⟩, 0⟩ 0
theorem token_join.mono_l : ∀ k, (∀ y0 y1 y2 y3, LeO (token_join.l0 k y0 y1 y2 y3) (token_join.l0 (k + 1) y0 y1 y2 y3))
  | 0 => fun _ _ _ _ r h => by simp [token_join.l0] at h
  | k + 1 => by
    have ih0 := token_join.mono_l k
    intro y0 y1 y2 y3
    unfold token_join.l0
    repeat' first
      | (with_reducible exact ih0 _ _ _ _)
      | (with_reducible exact token_apart.mono _ _ _ _ _ _ _)
      | (with_reducible exact LeO.refl _)
      | (with_reducible exact LeO.none _)
      | (with_reducible refine LeO.ite ?_ ?_)
      | (with_reducible refine LeO.bind ?_ (fun _ => ?_))
      | exact ih0 _ _ _ _
      | exact token_apart.mono _ _ _ _ _ _ _
      | exact LeO.none _
      | refine LeO.ite ?_ ?_
      | refine LeO.bind ?_ (fun _ => ?_)
theorem token_join.mono : ∀ a0 k, LeO (token_join.f k a0) (token_join.f (k + 1) a0) := fun a0 k => token_join.mono_l k _ _ _ _
theorem builder_keeps {T e B b : Nat} {bs : List Value} {w w1 : World} (h : Lib.IsBuilderF T e B b bs w) (hk : ∀ (k : Nat) (c : Array Value) (q : Nat) (fz : Nat × Nat), w.heap[k]? = some (Obj.cells c q fz) → (q = T ∨ q = e) → w1.heap[k]? = some (Obj.cells c q fz)) (hs : w.heap.size ≤ w1.heap.size) : Lib.IsBuilderF T e B b bs w1 := by
  have step : ∀ p, Lib.BuilderAtF T e B b p bs w → Lib.BuilderAtF T e B b p bs w1 := by
    rintro p ⟨hB, v, hb, hown, hne⟩
    refine ⟨hB, v, hk _ _ _ _ hb (.inl rfl), ⟨hown.1, ?_⟩, hne⟩
    rcases hown.2 with h0 | ⟨g, cap, cur, fz, hv, hg, hh, hr⟩
    · exact .inl h0
    · exact .inr ⟨g, cap, cur, fz, hv, hg, hk _ _ _ _ hh (.inr rfl), hr⟩
  exact h.elim (fun x => .inl (step _ x)) (fun x => .inr (step _ x))
theorem builder_below {T e B b : Nat} {bs : List Value} {w w1 : World} (h : Lib.IsBuilderF T e B b bs w) (hb : Below w.heap.size w w1) : Lib.IsBuilderF T e B b bs w1 :=
  builder_keeps h (fun k c q fz hk _ => (hb.block k (Array.getElem?_eq_some_iff.1 hk).1).trans hk) hb.size
theorem builder_set {T e B b : Nat} {bs : List Value} {w : World} (h : Lib.IsBuilderF T e B b bs w) (p : Addr) (v : Value) {c : Array Value} {q : Nat} {fz : Nat × Nat} (hp : w.heap[p.block]? = some (.cells c q fz)) (h1 : q ≠ T) (h2 : q ≠ e) : Lib.IsBuilderF T e B b bs (w.setCell p v) :=
  builder_keeps h (fun k c' q' fz' hk hq => by
    have hne : k ≠ p.block := by
      rintro rfl
      rw [hp] at hk
      injection hk with hk
      injection hk with _ hk
      subst hk
      exact hq.elim h1 h2
    rw [Below.heap_setCell _ _ _ _ hne]; exact hk) (Nat.le_of_eq (by simp))
theorem kept_box {e : TypeId} {b k q : Nat} {w w1 : World} {c : Array Value} {fz : Nat × Nat} (h : Lib.OthersKept e (some b) w w1) (hk : w.heap[k]? = some (.cells c q fz)) (hb : k ≠ b) (hq : q ≠ e) : w1.heap[k]? = some (.cells c q fz) :=
  h k _ hk (fun h => hb (by injection h)) (fun c' fz' h => hq (by injection h))
theorem heap_alloc_new (w : World) (o : Obj) : (w.alloc o).heap[w.heap.size]? = some o := by
  unfold World.alloc
  exact Array.getElem?_push_size
theorem cells_app (o : List UInt8) (s : ByteArray) : Lib.byteCells (o ++ s.data.toList) = Lib.byteCells o ++ Lib.strCells s := by
  simp [Lib.byteCells, Lib.strCells]
theorem cells_snoc (o : List UInt8) : Lib.byteCells (o ++ [32]) = Lib.byteCells o ++ [.int .u8 32] := by
  simp [Lib.byteCells]
def JRel (k : Nat) (l0 : List S44) (r : ByteArray) (w : World) (kq : Nat) (v : Value) (w' : World) : Prop := ∃ (i : Int) (o : List UInt8) (la : S44), v = .int .i64 i ∧ token_join.l0 kq l0 o la i = some r ∧ kq ≤ k ∧ Lib.IsBuilderF 67 5 w.heap.size w.heap.size (Lib.byteCells o) w' ∧ w'.heap[w.heap.size + 1]? = some (.cells #[.int .i64 la.f0, .string la.f1, .int .i64 la.f2] 44 (0,0)) ∧ Below w.heap.size w w'
set_option maxHeartbeats 8000000 in
set_option maxRecDepth 100000 in
theorem token_join.calls (k : Nat) (A0 : Option Addr) (c0 : Nat) (l0 : List S44) (r : ByteArray) (w : World) (hG : GW w) (hr0 : Kd.C k44 w A0 l0.length l0) (hc0 : l0.length ≤ c0) (h : token_join.f k l0 = some r) :
    Calls Tryd.prog 35 #[.slice A0 l0.length c0] w fun e w' => e = .returned (.string r) ∧ Below w.heap.size w w' := by
  have hu44 := Tryd.underlying44
  have hu67 := Tryd.underlying67
  have HG := Aside0.mk hG
  have HR0 := Aside0.mk hr0
  clear hG hr0
  have H' := Aside0.mk (show token_join.l0 k l0 [] ⟨5, ⟨#[]⟩, 0⟩ 0 = some r from h)
  clear h
  go_enter Tryd.func35, Tryd.ntmps35
  go_wp2
  go_loopg [10] k (fun kq v10 w' => JRel k l0 r w kq v10 w')
  case atStart =>
    refine ⟨0, [], ⟨5, ⟨#[]⟩, 0⟩, rfl, H'.out, Nat.le_refl _, (Lib.IsBuilderF.of (Lib.fresh_isBuilder 67 5 w)).alloc _, ?_, ?_⟩
    · have e1 : (w.alloc (Obj.cells #[Value.pointer none, Value.slice none 0 0] 67)).heap.size = w.heap.size + 1 := by simp
      rw [← e1]
      exact heap_alloc_new _ _
    · exact ((Below.refl _ _).alloc (Nat.le_refl _) _).alloc (by simp) _
  case round =>
    obtain ⟨i, o, la, rfl, hA, hk, hBu, hLa, hb⟩ := hrel
    cases gk with
    | zero => exact absurd hA (by simp [token_join.l0])
    | succ k1 =>
    simp only [token_join.l0] at hA
    have HBu := Aside0.mk hBu
    have HLa := Aside0.mk hLa
    have HB := Aside0.mk hb
    have HK := Aside0.mk hk
    clear hBu hLa hb hk H'
    by_cases c1 : i < (l0.length : Int)
    · rw [if_pos c1] at hA
      by_cases c2 : 0 ≤ i
      · rw [if_pos c2] at hA
        have hHR := HR0.out
        obtain ⟨ad, e0, hx0, hx1, hx2⟩ := at_T44 hHR i c2 c1
        clear hHR
        cases e0
        replace hx0 := pw_cell_below HB.out hx0
        replace hx1 := pw_cell_below HB.out hx1
        replace hx2 := pw_cell_below HB.out hx2
        have c1b : decide (i < (l0.length : Int)) = true := decide_eq_true c1
        have c2b : decide (0 ≤ i) = true := decide_eq_true c2
        replace c1 := eq_true c1
        replace c2 := eq_true c2
        by_cases c3 : (rd_T44 l0 i).f0 = 5
        · rw [if_pos c3] at hA
          have c3b : ((rd_T44 l0 i).f0 == 5) = true := beq_iff_eq.mpr c3
          have HA := Aside0.mk hA
          clear c3 hA
          go_wp2
          go_roundg k1
          case measure => have := HK.out; omega
          case rel =>
            refine ⟨wrap64 (i + 1), o, la, rfl, HA.out, by have := HK.out; omega, HBu.out.alloc _, ?_, HB.out.alloc HB.out.size _⟩
            exact (Below.heap_alloc _ _ _ (Array.getElem?_eq_some_iff.1 HLa.out).1).trans HLa.out
        · rw [if_neg c3] at hA
          have c3b : ((rd_T44 l0 i).f0 == 5) = false := beq_eq_false_iff_ne.mpr c3
          clear c3
          replace hA := Option.bind_eq_some_iff.mp hA
          obtain ⟨t, At, hA⟩ := hA
          have HAt := Aside0.mk At
          clear At
          have hlt : w.heap.size + 1 < wr.heap.size := (Array.getElem?_eq_some_iff.1 HLa.out).1
          have l0c : ∀ O, (wr.alloc O).cell? ⟨w.heap.size + 1, 0, none⟩ = some (.int .i64 la.f0) := fun O => (World.cell?_of_block (w := wr) (Below.heap_alloc wr O _ hlt)).trans ((blk_cell HLa.out 0).trans rfl)
          have l1c : ∀ O, (wr.alloc O).cell? ⟨w.heap.size + 1, 1, none⟩ = some (.string la.f1) := fun O => (World.cell?_of_block (w := wr) (Below.heap_alloc wr O _ hlt)).trans ((blk_cell HLa.out 1).trans rfl)
          have l2c : ∀ O, (wr.alloc O).cell? ⟨w.heap.size + 1, 2, none⟩ = some (.int .i64 la.f2) := fun O => (World.cell?_of_block (w := wr) (Below.heap_alloc wr O _ hlt)).trans ((blk_cell HLa.out 2).trans rfl)
          go_wp2_with fail
          refine (token_apart.calls k1 _ _ _ _ _ _ t _ (GW.below HG.out (HB.out.alloc HB.out.size _)) HAt.out).mono ?_
          rintro e w2 ⟨rfl, hb2⟩
          have hsz : (wr.alloc (Obj.cells #[Value.int IntKind.i64 (rd_T44 l0 i).f0, Value.string (rd_T44 l0 i).f1, Value.int IntKind.i64 (rd_T44 l0 i).f2] 44)).heap.size = wr.heap.size + 1 := by simp
          have HBu2 := Aside0.mk (builder_below (HBu.out.alloc _) hb2)
          have HLa2 := Aside0.mk ((hb2.block _ (by rw [hsz]; omega)).trans ((Below.heap_alloc wr _ _ hlt).trans HLa.out))
          have HT2 := Aside0.mk ((hb2.block wr.heap.size (by rw [hsz]; omega)).trans (heap_alloc_new wr _))
          have HB2 := Aside0.mk (((HB.out.alloc HB.out.size _)).trans (hb2.mono (by rw [hsz]; have := HB.out.size; omega)))
          have HN := Aside0.mk (Nat.ne_of_gt hlt)
          have HN1 := Aside0.mk (show w.heap.size ≠ wr.heap.size by omega)
          clear hb2 hsz l0c l1c l2c HBu HLa HB HAt hx0 hx1 hx2 hlt HG HR0
          generalize hgt : wr.heap.size = gt at *
          clear hgt
          cases t with
          | false =>
            rw [if_neg (by simp)] at hA
            by_cases c4 : o.length + (rd_T44 l0 i).f1.size ≤ 140737488355328
            · rw [if_pos c4] at hA
              have HA := Aside0.mk hA
              have HC4 := Aside0.mk c4
              clear hA c4
              have t0c := (blk_cell HT2.out 0).trans rfl
              have t1c := (blk_cell HT2.out 1).trans rfl
              have t2c := (blk_cell HT2.out 2).trans rfl
              go_wp2_with fail
              have hlen : (Lib.byteCells o).length + (rd_T44 l0 i).f1.size ≤ 140737488355328 := by rw [Lib.byteCells_length]; exact HC4.out
              refine (B.writeString w.heap.size w.heap.size (Lib.byteCells o) _ w2 HBu2.out hlen HB2.out.size).mono ?_
              clear hlen
              rintro e w3 ⟨rfl, hAt, hb3, hk3⟩
              have HBu3 := Aside0.mk (show Lib.IsBuilderF 67 5 w.heap.size w.heap.size (Lib.byteCells (o ++ (rd_T44 l0 i).f1.data.toList)) w3 from by rw [cells_app]; exact .inr hAt)
              have HLa3 := Aside0.mk (kept_box hk3 HLa2.out (by omega) (by decide))
              have HT3 := Aside0.mk (kept_box hk3 HT2.out HN1.out.symm (by decide))
              have HB3 := Aside0.mk (HB2.out.trans hb3)
              clear hAt hb3 hk3 HBu2 HLa2 HT2 HB2 t0c t1c t2c
              have t0c := (blk_cell HT3.out 0).trans rfl
              have t1c := (blk_cell HT3.out 1).trans rfl
              have t2c := (blk_cell HT3.out 2).trans rfl
              have s0c := (blk_cell HLa3.out 0).trans rfl
              have s1c := (blk_cell HLa3.out 1).trans rfl
              have s2c := (blk_cell HLa3.out 2).trans rfl
              have s0f := blk_frozen HLa3.out 0
              have s1f := blk_frozen HLa3.out 1
              have s2f := blk_frozen HLa3.out 2
              go_wp2
              go_roundg k1
              case measure => have := HK.out; omega
              case rel =>
                have b1 := blk_put (cs := #[.int .i64 la.f0, .string la.f1, .int .i64 la.f2]) HLa3.out 0 (.int .i64 (rd_T44 l0 i).f0) rfl
                have b2 := blk_put b1 1 (.string (rd_T44 l0 i).f1) rfl
                have b3 := blk_put b2 2 (.int .i64 (rd_T44 l0 i).f2) rfl
                have q1 := builder_set HBu3.out ⟨w.heap.size + 1, 0, none⟩ (.int .i64 (rd_T44 l0 i).f0) HLa3.out (by decide) (by decide)
                have q2 := builder_set q1 ⟨w.heap.size + 1, 1, none⟩ (.string (rd_T44 l0 i).f1) b1 (by decide) (by decide)
                have q3 := builder_set q2 ⟨w.heap.size + 1, 2, none⟩ (.int .i64 (rd_T44 l0 i).f2) b2 (by decide) (by decide)
                exact ⟨wrap64 (i + 1), _, rd_T44 l0 i, rfl, HA.out, by have := HK.out; omega, q3, b3, ((HB3.out.setCell (p := ⟨w.heap.size + 1, 0, none⟩) (by simp) _).setCell (p := ⟨w.heap.size + 1, 1, none⟩) (by simp) _).setCell (p := ⟨w.heap.size + 1, 2, none⟩) (by simp) _⟩
            · rw [if_neg c4] at hA
              cases hA
          | true =>
            rw [if_pos rfl] at hA
            by_cases c4 : o.length + 1 + (rd_T44 l0 i).f1.size ≤ 140737488355328
            · rw [if_pos c4] at hA
              have HA := Aside0.mk hA
              have HC4 := Aside0.mk (show (o ++ [32]).length + (rd_T44 l0 i).f1.size ≤ 140737488355328 by rw [List.length_append]; exact c4)
              have HC5 := Aside0.mk (show (Lib.byteCells o).length + 1 ≤ 140737488355328 by rw [Lib.byteCells_length]; omega)
              clear hA c4
              go_wp2_with fail
              refine (B.writeByte w.heap.size w.heap.size (Lib.byteCells o) 32 w2 HBu2.out HC5.out HB2.out.size).mono ?_
              rintro e w4 ⟨rfl, hAt4, hb4, hk4⟩
              have HBu4 := Aside0.mk (show Lib.IsBuilderF 67 5 w.heap.size w.heap.size (Lib.byteCells (o ++ [32])) w4 from by rw [cells_snoc]; exact .inr hAt4)
              have HLa4 := Aside0.mk (kept_box hk4 HLa2.out (by omega) (by decide))
              have HT4 := Aside0.mk (kept_box hk4 HT2.out HN1.out.symm (by decide))
              have HB4 := Aside0.mk (HB2.out.trans hb4)
              clear hAt4 hb4 hk4 HBu2 HLa2 HT2 HB2 HC5
              have t0c := (blk_cell HT4.out 0).trans rfl
              have t1c := (blk_cell HT4.out 1).trans rfl
              have t2c := (blk_cell HT4.out 2).trans rfl
              go_wp2_with fail
              have hlen : (Lib.byteCells (o ++ [32])).length + (rd_T44 l0 i).f1.size ≤ 140737488355328 := by rw [Lib.byteCells_length]; exact HC4.out
              refine (B.writeString w.heap.size w.heap.size (Lib.byteCells (o ++ [32])) _ w4 HBu4.out hlen HB4.out.size).mono ?_
              clear hlen
              rintro e w3 ⟨rfl, hAt, hb3, hk3⟩
              have HBu3 := Aside0.mk (show Lib.IsBuilderF 67 5 w.heap.size w.heap.size (Lib.byteCells ((o ++ [32]) ++ (rd_T44 l0 i).f1.data.toList)) w3 from by rw [cells_app]; exact .inr hAt)
              have HLa3 := Aside0.mk (kept_box hk3 HLa4.out (by omega) (by decide))
              have HT3 := Aside0.mk (kept_box hk3 HT4.out HN1.out.symm (by decide))
              have HB3 := Aside0.mk (HB4.out.trans hb3)
              clear hAt hb3 hk3 HBu4 HLa4 HT4 HB4 t0c t1c t2c
              have t0c := (blk_cell HT3.out 0).trans rfl
              have t1c := (blk_cell HT3.out 1).trans rfl
              have t2c := (blk_cell HT3.out 2).trans rfl
              have s0c := (blk_cell HLa3.out 0).trans rfl
              have s1c := (blk_cell HLa3.out 1).trans rfl
              have s2c := (blk_cell HLa3.out 2).trans rfl
              have s0f := blk_frozen HLa3.out 0
              have s1f := blk_frozen HLa3.out 1
              have s2f := blk_frozen HLa3.out 2
              go_wp2
              go_roundg k1
              case measure => have := HK.out; omega
              case rel =>
                have b1 := blk_put (cs := #[.int .i64 la.f0, .string la.f1, .int .i64 la.f2]) HLa3.out 0 (.int .i64 (rd_T44 l0 i).f0) rfl
                have b2 := blk_put b1 1 (.string (rd_T44 l0 i).f1) rfl
                have b3 := blk_put b2 2 (.int .i64 (rd_T44 l0 i).f2) rfl
                have q1 := builder_set HBu3.out ⟨w.heap.size + 1, 0, none⟩ (.int .i64 (rd_T44 l0 i).f0) HLa3.out (by decide) (by decide)
                have q2 := builder_set q1 ⟨w.heap.size + 1, 1, none⟩ (.string (rd_T44 l0 i).f1) b1 (by decide) (by decide)
                have q3 := builder_set q2 ⟨w.heap.size + 1, 2, none⟩ (.int .i64 (rd_T44 l0 i).f2) b2 (by decide) (by decide)
                exact ⟨wrap64 (i + 1), _, rd_T44 l0 i, rfl, HA.out, by have := HK.out; omega, q3, b3, ((HB3.out.setCell (p := ⟨w.heap.size + 1, 0, none⟩) (by simp) _).setCell (p := ⟨w.heap.size + 1, 1, none⟩) (by simp) _).setCell (p := ⟨w.heap.size + 1, 2, none⟩) (by simp) _⟩
            · rw [if_neg c4] at hA
              cases hA
      · rw [if_neg c2] at hA
        cases hA
    · rw [if_neg c1] at hA
      have c1b : decide (i < (l0.length : Int)) = false := decide_eq_false c1
      obtain rfl := Option.some.inj hA
      clear c1 hA
      have hbs := HB.out.size
      go_wp2_with (go_at_call 61; refine (Tryd.Builder_String_any_k w.heap.size w.heap.size o _ HBu.out hbs).mono ?_; rintro e w' ⟨rfl, _, hb2, _⟩)
      go_ret
      exact ⟨rfl, HB.out.trans hb2⟩
end Go.Proofs.YteobbnehdlcphaaDoor.P

