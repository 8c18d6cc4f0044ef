import Derived.LoopN
import Derived.Handy
import Derived.Test.YtbkknoipgmlcmaaGreatDoorQSHHead
import Derived.Test.YtbkknoipgmlcmaaGreatDoorQSHOf
import Derived.Test.YtbkknoipgmlcmaaGreatDoorQSHUse
import Derived.Test.YtbkknoipgmlcmaaGreatDoorQSXZ
namespace Go.Proofs.YtbkknoipgmlcmaaGreatDoor.P
open Go.RowKit Go.Proofs.YtbkknoipgmlcmaaGreatDoorW.PrintWords Go.Proofs.YtbkknoipgmlcmaaGreatDoorW.PrintLast Go.Proofs.YtbkknoipgmlcmaaGreatDoorW.PrintMore
open Go.Proofs.FX
set_option linter.unusedVariables false
set_option linter.unusedSimpArgs false
attribute [local go_sem] Instr.index
set_option maxHeartbeats 2000000 in
set_option maxRecDepth 100000 in
theorem empty_0 (D6 : Option Addr) (e6 : Nat) (D7 : Option Addr) (e7 : Nat) (w : World) : Calls Tryz.prog 141 #[.agg #[.int .i64 0, .bool false, .slice D6 0 e6, .slice D7 0 e7]] w fun e w' => e = .returned (.bool true) ∧ Below w.heap.size w w' := by
  have hu61 := Tryz.underlying61
  go_enter Tryz.func141, Tryz.ntmps141
  go_wp2
  refine bodyPost_ret (by simp [results, Tryz.results141, go_sem]) rfl ⟨rfl, below_alloc (Below.refl _ _) _⟩
set_option maxHeartbeats 2000000 in
set_option maxRecDepth 100000 in
theorem formed_M (D6 : Option Addr) (e6 : Nat) (D7 : Option Addr) (e7 : Nat) (nm : ByteArray) (w : World) :
    Calls Tryz.prog 93 #[.agg #[.int .i64 8, .int .i64 1, .int .i64 0, .int .i64 0, .int .i64 0, .bool false, .slice D6 0 e6, .slice D7 0 e7], .agg #[.string nm, .int .i64 1, .int .i64 1, .int .i64 1, .bool false, .int .i64 0, .int .i64 0]] w fun e w' => e = .returned (.bool true) ∧ Below w.heap.size w w' := by
  have hu73 := Tryz.underlying73
  have hu63 := Tryz.underlying63
  have hu72 := Tryz.underlying72
  have hu61 := Tryz.underlying61
  have hu75 := Tryz.underlying75
  have hu78 := Tryz.underlying78
  have hu77 := Tryz.underlying77
  have hu70 := Tryz.underlying70
  have hu50 := Tryz.underlying50
  go_enter Tryz.func93, Tryz.ntmps93
  go_wp2_with fail
  (with_reducible refine (empty_0 D6 e6 D7 e7 _).mono ?_)
  rintro e w1 ⟨rfl, hb⟩
  have HB := Aside0.mk (below_step (below_alloc (below_alloc (Below.refl w.heap.size w) _) _) hb)
  have BI := Aside0.mk (blk_below (blk_alloc (blk_new w _) _) hb)
  have BS := blk_below (blk_new (w.alloc _) _) hb
  have e1 : ∀ o, (w.alloc o).heap.size = w.heap.size + 1 := fun o => by simp
  rw [e1] at BS
  have s0 := (blk_cell BS 0).trans rfl
  have s1 := (blk_cell BS 1).trans rfl
  have s2 := (blk_cell BS 2).trans rfl
  have s3 := (blk_cell BS 3).trans rfl
  have s4 := (blk_cell BS 4).trans rfl
  have s5 := (blk_cell BS 5).trans rfl
  have s6 := (blk_cell BS 6).trans rfl
  have i1 := (blk_cell BI.out 1).trans rfl
  have i2 := (blk_cell BI.out 2).trans rfl
  have i3 := (blk_cell BI.out 3).trans rfl
  clear hb BS BI e1
  go_wp2_with (go_at_call 42; (with_reducible refine (uses_calls _ _ _ _ _ _ _ _).mono ?_); rintro e w2 ⟨rfl, hb⟩; replace HB := Aside0.mk (below_step HB.out hb); replace i1 := pw_cell_below hb i1; replace i2 := pw_cell_below hb i2; replace i3 := pw_cell_below hb i3; clear hb s0 s1 s2 s3 s4 s5 s6)
  refine wp_loop_rounds 4 ?_
  repeat (rw [rounds_succ]; go_wp2_with (go_at_call 43; (with_reducible refine (fields_calls _ _).mono ?_); rintro e w3 ⟨rfl, hb⟩; replace HB := Aside0.mk (below_step HB.out hb); replace i1 := pw_cell_below hb i1; replace i2 := pw_cell_below hb i2; replace i3 := pw_cell_below hb i3; clear hb))
  refine bodyPost_ret (by simp [results, Tryz.results93, go_sem]) rfl ⟨rfl, HB.out⟩
set_option maxHeartbeats 2000000 in
set_option maxRecDepth 100000 in
theorem formed_T (D6 : Option Addr) (e6 : Nat) (D7 : Option Addr) (e7 : Nat) (nm : ByteArray) (w : World) :
    Calls Tryz.prog 93 #[.agg #[.int .i64 26, .int .i64 1, .int .i64 0, .int .i64 0, .int .i64 0, .bool false, .slice D6 0 e6, .slice D7 0 e7], .agg #[.string nm, .int .i64 6, .int .i64 0, .int .i64 0, .bool false, .int .i64 0, .int .i64 0]] w fun e w' => e = .returned (.bool true) ∧ Below w.heap.size w w' := by
  have hu73 := Tryz.underlying73
  have hu63 := Tryz.underlying63
  have hu72 := Tryz.underlying72
  have hu61 := Tryz.underlying61
  have hu75 := Tryz.underlying75
  have hu78 := Tryz.underlying78
  have hu77 := Tryz.underlying77
  have hu70 := Tryz.underlying70
  have hu50 := Tryz.underlying50
  go_enter Tryz.func93, Tryz.ntmps93
  go_wp2_with fail
  (with_reducible refine (empty_0 D6 e6 D7 e7 _).mono ?_)
  rintro e w1 ⟨rfl, hb⟩
  have HB := Aside0.mk (below_step (below_alloc (below_alloc (Below.refl w.heap.size w) _) _) hb)
  have BI := Aside0.mk (blk_below (blk_alloc (blk_new w _) _) hb)
  have BS := blk_below (blk_new (w.alloc _) _) hb
  have e1 : ∀ o, (w.alloc o).heap.size = w.heap.size + 1 := fun o => by simp
  rw [e1] at BS
  have s0 := (blk_cell BS 0).trans rfl
  have s1 := (blk_cell BS 1).trans rfl
  have s2 := (blk_cell BS 2).trans rfl
  have s3 := (blk_cell BS 3).trans rfl
  have s4 := (blk_cell BS 4).trans rfl
  have s5 := (blk_cell BS 5).trans rfl
  have s6 := (blk_cell BS 6).trans rfl
  have i1 := (blk_cell BI.out 1).trans rfl
  have i2 := (blk_cell BI.out 2).trans rfl
  have i3 := (blk_cell BI.out 3).trans rfl
  clear hb BS BI e1
  go_wp2_with (go_at_call 42; (with_reducible refine (uses_calls _ _ _ _ _ _ _ _).mono ?_); rintro e w2 ⟨rfl, hb⟩; replace HB := Aside0.mk (below_step HB.out hb); replace i1 := pw_cell_below hb i1; replace i2 := pw_cell_below hb i2; replace i3 := pw_cell_below hb i3; clear hb s0 s1 s2 s3 s4 s5 s6)
  refine wp_loop_rounds 4 ?_
  repeat (rw [rounds_succ]; go_wp2_with (go_at_call 43; (with_reducible refine (fields_calls _ _).mono ?_); rintro e w3 ⟨rfl, hb⟩; replace HB := Aside0.mk (below_step HB.out hb); replace i1 := pw_cell_below hb i1; replace i2 := pw_cell_below hb i2; replace i3 := pw_cell_below hb i3; clear hb))
  refine bodyPost_ret (by simp [results, Tryz.results93, go_sem]) rfl ⟨rfl, HB.out⟩
set_option maxHeartbeats 2000000 in
set_option maxRecDepth 100000 in
theorem there_M (ab ao : Nat) (al : Option Nat) (A1 A2 A4 : Option Addr) (c0 c1 c2 c4 : Nat) (D6 : Option Addr) (e6 : Nat) (D7 : Option Addr) (e7 : Nat) (nm : ByteArray) (w : World) (x0 : w.cell? ⟨ab, ao, al⟩ = some (.string ⟨#[102]⟩)) (x1 : w.cell? ⟨ab, ao + 1, none⟩ = some (.slice A1 1 c1)) (x2 : w.cell? ⟨ab, ao + 2, none⟩ = some (.slice A2 1 c2)) (x3 : w.cell? ⟨ab, ao + 3, none⟩ = some (.int .i64 2)) (x4 : w.cell? ⟨ab, ao + 4, none⟩ = some (.slice A4 2 c4)) :
    Calls Tryz.prog 94 #[.slice (some ⟨ab, ao, al⟩) 1 c0, .int .i64 0, .agg #[.int .i64 8, .int .i64 1, .int .i64 0, .int .i64 0, .int .i64 0, .bool false, .slice D6 0 e6, .slice D7 0 e7], .agg #[.string nm, .int .i64 1, .int .i64 1, .int .i64 1, .bool false, .int .i64 0, .int .i64 0]] w fun e w' => e = .returned (.bool true) ∧ Below w.heap.size w w' := by
  have hu73 := Tryz.underlying73
  have hu63 := Tryz.underlying63
  have hu72 := Tryz.underlying72
  have hu61 := Tryz.underlying61
  have hu75 := Tryz.underlying75
  have hu78 := Tryz.underlying78
  have hu77 := Tryz.underlying77
  have hu70 := Tryz.underlying70
  have hu50 := Tryz.underlying50
  have X0 : ∀ o1 o2, ((w.alloc o1).alloc o2).cell? ⟨ab, ao, al⟩ = _ := fun o1 o2 => pw_cell_below (below_alloc (below_alloc (Below.refl w.heap.size w) o1) o2) x0
  have X1 : ∀ o1 o2, ((w.alloc o1).alloc o2).cell? ⟨ab, ao + 1, none⟩ = _ := fun o1 o2 => pw_cell_below (below_alloc (below_alloc (Below.refl w.heap.size w) o1) o2) x1
  have X2 : ∀ o1 o2, ((w.alloc o1).alloc o2).cell? ⟨ab, ao + 2, none⟩ = _ := fun o1 o2 => pw_cell_below (below_alloc (below_alloc (Below.refl w.heap.size w) o1) o2) x2
  have X3 : ∀ o1 o2, ((w.alloc o1).alloc o2).cell? ⟨ab, ao + 3, none⟩ = _ := fun o1 o2 => pw_cell_below (below_alloc (below_alloc (Below.refl w.heap.size w) o1) o2) x3
  have X4 : ∀ o1 o2, ((w.alloc o1).alloc o2).cell? ⟨ab, ao + 4, none⟩ = _ := fun o1 o2 => pw_cell_below (below_alloc (below_alloc (Below.refl w.heap.size w) o1) o2) x4
  go_enter Tryz.func94, Tryz.ntmps94
  go_wp2_with fail
  (with_reducible refine (uses_calls _ _ _ _ _ _ _ _).mono ?_)
  rintro e w1 ⟨rfl, hb⟩
  have HB := Aside0.mk (below_step (below_alloc (below_alloc (below_alloc (Below.refl w.heap.size w) _) _) _) hb)
  have BI := blk_below (blk_alloc (blk_alloc (blk_new w _) _) _) hb
  have BR := blk_below (blk_new ((w.alloc _).alloc _) _) hb
  have e1 : ∀ o1 o2, ((w.alloc o1).alloc o2).heap.size = w.heap.size + 1 + 1 := fun o1 o2 => by simp
  rw [e1] at BR
  have i1 := (blk_cell BI 1).trans rfl
  have i2 := (blk_cell BI 2).trans rfl
  have i3 := (blk_cell BI 3).trans rfl
  have r2 := (blk_cell BR 2).trans rfl
  have r3 := (blk_cell BR 3).trans rfl
  clear hb BR BI e1 x0 x1 x2 x3 x4 X0 X1 X2 X3 X4
  go_wp2_with fail
  refine wp_loop_rounds 4 ?_
  repeat (rw [rounds_succ]; go_wp2_with (go_at_call 43; (with_reducible refine (fields_calls _ _).mono ?_); rintro e w3 ⟨rfl, hb⟩; replace HB := Aside0.mk (below_step HB.out hb); replace i1 := pw_cell_below hb i1; replace i2 := pw_cell_below hb i2; replace i3 := pw_cell_below hb i3; replace r2 := pw_cell_below hb r2; replace r3 := pw_cell_below hb r3; clear hb))
  refine bodyPost_ret (by simp [results, Tryz.results94, go_sem]) rfl ⟨rfl, HB.out⟩
set_option maxHeartbeats 2000000 in
set_option maxRecDepth 100000 in
theorem there_T (ab ao : Nat) (al : Option Nat) (A1 A2 A4 : Option Addr) (c0 c1 c2 c4 : Nat) (D6 : Option Addr) (e6 : Nat) (D7 : Option Addr) (e7 : Nat) (nm : ByteArray) (w : World) (x0 : w.cell? ⟨ab, ao, al⟩ = some (.string ⟨#[102]⟩)) (x1 : w.cell? ⟨ab, ao + 1, none⟩ = some (.slice A1 1 c1)) (x2 : w.cell? ⟨ab, ao + 2, none⟩ = some (.slice A2 1 c2)) (x3 : w.cell? ⟨ab, ao + 3, none⟩ = some (.int .i64 2)) (x4 : w.cell? ⟨ab, ao + 4, none⟩ = some (.slice A4 2 c4)) :
    Calls Tryz.prog 94 #[.slice (some ⟨ab, ao, al⟩) 1 c0, .int .i64 0, .agg #[.int .i64 26, .int .i64 1, .int .i64 0, .int .i64 0, .int .i64 0, .bool false, .slice D6 0 e6, .slice D7 0 e7], .agg #[.string nm, .int .i64 6, .int .i64 0, .int .i64 0, .bool false, .int .i64 0, .int .i64 0]] w fun e w' => e = .returned (.bool true) ∧ Below w.heap.size w w' := by
  have hu73 := Tryz.underlying73
  have hu63 := Tryz.underlying63
  have hu72 := Tryz.underlying72
  have hu61 := Tryz.underlying61
  have hu75 := Tryz.underlying75
  have hu78 := Tryz.underlying78
  have hu77 := Tryz.underlying77
  have hu70 := Tryz.underlying70
  have hu50 := Tryz.underlying50
  have X0 : ∀ o1 o2, ((w.alloc o1).alloc o2).cell? ⟨ab, ao, al⟩ = _ := fun o1 o2 => pw_cell_below (below_alloc (below_alloc (Below.refl w.heap.size w) o1) o2) x0
  have X1 : ∀ o1 o2, ((w.alloc o1).alloc o2).cell? ⟨ab, ao + 1, none⟩ = _ := fun o1 o2 => pw_cell_below (below_alloc (below_alloc (Below.refl w.heap.size w) o1) o2) x1
  have X2 : ∀ o1 o2, ((w.alloc o1).alloc o2).cell? ⟨ab, ao + 2, none⟩ = _ := fun o1 o2 => pw_cell_below (below_alloc (below_alloc (Below.refl w.heap.size w) o1) o2) x2
  have X3 : ∀ o1 o2, ((w.alloc o1).alloc o2).cell? ⟨ab, ao + 3, none⟩ = _ := fun o1 o2 => pw_cell_below (below_alloc (below_alloc (Below.refl w.heap.size w) o1) o2) x3
  have X4 : ∀ o1 o2, ((w.alloc o1).alloc o2).cell? ⟨ab, ao + 4, none⟩ = _ := fun o1 o2 => pw_cell_below (below_alloc (below_alloc (Below.refl w.heap.size w) o1) o2) x4
  go_enter Tryz.func94, Tryz.ntmps94
  go_wp2_with fail
  (with_reducible refine (uses_calls _ _ _ _ _ _ _ _).mono ?_)
  rintro e w1 ⟨rfl, hb⟩
  have HB := Aside0.mk (below_step (below_alloc (below_alloc (below_alloc (Below.refl w.heap.size w) _) _) _) hb)
  have BI := blk_below (blk_alloc (blk_alloc (blk_new w _) _) _) hb
  have BR := blk_below (blk_new ((w.alloc _).alloc _) _) hb
  have e1 : ∀ o1 o2, ((w.alloc o1).alloc o2).heap.size = w.heap.size + 1 + 1 := fun o1 o2 => by simp
  rw [e1] at BR
  have i1 := (blk_cell BI 1).trans rfl
  have i2 := (blk_cell BI 2).trans rfl
  have i3 := (blk_cell BI 3).trans rfl
  have r2 := (blk_cell BR 2).trans rfl
  have r3 := (blk_cell BR 3).trans rfl
  clear hb BR BI e1 x0 x1 x2 x3 x4 X0 X1 X2 X3 X4
  go_wp2_with fail
  refine wp_loop_rounds 4 ?_
  repeat (rw [rounds_succ]; go_wp2_with (go_at_call 43; (with_reducible refine (fields_calls _ _).mono ?_); rintro e w3 ⟨rfl, hb⟩; replace HB := Aside0.mk (below_step HB.out hb); replace i1 := pw_cell_below hb i1; replace i2 := pw_cell_below hb i2; replace i3 := pw_cell_below hb i3; replace r2 := pw_cell_below hb r2; replace r3 := pw_cell_below hb r3; clear hb))
  refine bodyPost_ret (by simp [results, Tryz.results94, go_sem]) rfl ⟨rfl, HB.out⟩
set_option maxHeartbeats 2000000 in
set_option maxRecDepth 100000 in
theorem instr_M (ab ao : Nat) (al : Option Nat) (A1 A2 : Option Addr) (c0 c1 c2 c4 : Nat) (bb bo : Nat) (bl : Option Nat) (D6 : Option Addr) (e6 : Nat) (D7 : Option Addr) (e7 : Nat) (w : World) (hG : GW w) (x0 : w.cell? ⟨ab, ao, al⟩ = some (.string ⟨#[102]⟩)) (x1 : w.cell? ⟨ab, ao + 1, none⟩ = some (.slice A1 1 c1)) (x2 : w.cell? ⟨ab, ao + 2, none⟩ = some (.slice A2 1 c2)) (x3 : w.cell? ⟨ab, ao + 3, none⟩ = some (.int .i64 2)) (x4 : w.cell? ⟨ab, ao + 4, none⟩ = some (.slice (some ⟨bb, bo, bl⟩) 2 c4)) (y0 : w.cell? ⟨bb, bo, bl⟩ = some (.int .i64 8)) (y1 : w.cell? ⟨bb, bo + 1, none⟩ = some (.int .i64 1)) (y2 : w.cell? ⟨bb, bo + 2, none⟩ = some (.int .i64 0)) (y3 : w.cell? ⟨bb, bo + 3, none⟩ = some (.int .i64 0)) (y4 : w.cell? ⟨bb, bo + 4, none⟩ = some (.int .i64 0)) (y5 : w.cell? ⟨bb, bo + 5, none⟩ = some (.bool false)) (y6 : w.cell? ⟨bb, bo + 6, none⟩ = some (.slice D6 0 e6)) (y7 : w.cell? ⟨bb, bo + 7, none⟩ = some (.slice D7 0 e7)) :
    Calls Tryz.prog 32 #[.slice (some ⟨ab, ao, al⟩) 1 c0, .int .i64 0, .int .i64 0] w fun e w' => e = .returned (.int .i64 0) ∧ Below w.heap.size w w' := by
  have hu73 := Tryz.underlying73
  have hu63 := Tryz.underlying63
  have hu72 := Tryz.underlying72
  have hu61 := Tryz.underlying61
  have hu75 := Tryz.underlying75
  have hu78 := Tryz.underlying78
  have hu77 := Tryz.underlying77
  have hu70 := Tryz.underlying70
  have hu50 := Tryz.underlying50
  have hof : code_of.f 8 = some (⟨#[109, 117, 108]⟩, 1, 1, 1, false, 0, 0, true) := by kernel_rfl
  have HG := Aside0.mk hG
  have HX := Aside0.mk (⟨x0, x1, x2, x3, x4⟩ : _ ∧ _ ∧ _ ∧ _ ∧ _)
  go_enter Tryz.func32, Tryz.ntmps32
  go_wp2_with fail
  (with_reducible refine (code_of.calls 8 _ _ _ _ _ _ _ _ _ ?side1 hof).mono ?_)
  case side1 => exact HG.out.below (below_alloc (Below.refl w.heap.size w) _)
  rintro e w1 ⟨rfl, hb⟩
  have HB := Aside0.mk (below_step (below_alloc (Below.refl w.heap.size w) _) hb)
  have BI := Aside0.mk (blk_below (blk_new w _) hb)
  have HX1 := Aside0.mk HB.out
  have I0 : ∀ o, (w1.alloc o).cell? ⟨w.heap.size, 0, none⟩ = _ := fun o => (blk_cell (blk_alloc BI.out o) 0).trans rfl
  have I1 : ∀ o, (w1.alloc o).cell? ⟨w.heap.size, 1, none⟩ = _ := fun o => (blk_cell (blk_alloc BI.out o) 1).trans rfl
  have I2 : ∀ o, (w1.alloc o).cell? ⟨w.heap.size, 2, none⟩ = _ := fun o => (blk_cell (blk_alloc BI.out o) 2).trans rfl
  have I3 : ∀ o, (w1.alloc o).cell? ⟨w.heap.size, 3, none⟩ = _ := fun o => (blk_cell (blk_alloc BI.out o) 3).trans rfl
  have I4 : ∀ o, (w1.alloc o).cell? ⟨w.heap.size, 4, none⟩ = _ := fun o => (blk_cell (blk_alloc BI.out o) 4).trans rfl
  have I5 : ∀ o, (w1.alloc o).cell? ⟨w.heap.size, 5, none⟩ = _ := fun o => (blk_cell (blk_alloc BI.out o) 5).trans rfl
  have I6 : ∀ o, (w1.alloc o).cell? ⟨w.heap.size, 6, none⟩ = _ := fun o => (blk_cell (blk_alloc BI.out o) 6).trans rfl
  have I7 : ∀ o, (w1.alloc o).cell? ⟨w.heap.size, 7, none⟩ = _ := fun o => (blk_cell (blk_alloc BI.out o) 7).trans rfl
  clear hb x0 x1 x2 x3 x4 y0 y1 y2 y3 y4 y5 y6 y7 HX1
  go_wp2_with fail
  (with_reducible refine (formed_M _ _ _ _ _ _).mono ?_)
  rintro e w2 ⟨rfl, hb⟩
  have BI2 := Aside0.mk (blk_below (blk_alloc BI.out _) hb)
  have BS2 := Aside0.mk (blk_below (blk_new w1 _) hb)
  have HB2 := Aside0.mk (below_step (below_alloc HB.out _) hb)
  clear hb I0 I1 I2 I3 I4 I5 I6 I7 HB BI
  have i0 := (blk_cell BI2.out 0).trans rfl
  have i1 := (blk_cell BI2.out 1).trans rfl
  have i2 := (blk_cell BI2.out 2).trans rfl
  have i3 := (blk_cell BI2.out 3).trans rfl
  have i4 := (blk_cell BI2.out 4).trans rfl
  have i5 := (blk_cell BI2.out 5).trans rfl
  have i6 := (blk_cell BI2.out 6).trans rfl
  have i7 := (blk_cell BI2.out 7).trans rfl
  have s0 := (blk_cell BS2.out 0).trans rfl
  have s1 := (blk_cell BS2.out 1).trans rfl
  have s2 := (blk_cell BS2.out 2).trans rfl
  have s3 := (blk_cell BS2.out 3).trans rfl
  have s4 := (blk_cell BS2.out 4).trans rfl
  have s5 := (blk_cell BS2.out 5).trans rfl
  have s6 := (blk_cell BS2.out 6).trans rfl
  go_wp2_with fail
  obtain ⟨x0, x1, x2, x3, x4⟩ := HX.out
  (with_reducible refine (there_M _ _ _ _ _ _ _ _ _ _ _ _ _ _ _ _ (pw_cell_below HB2.out x0) (pw_cell_below HB2.out x1) (pw_cell_below HB2.out x2) (pw_cell_below HB2.out x3) (pw_cell_below HB2.out x4)).mono ?_)
  clear i0 i1 i2 i3 i4 i5 i6 i7 s0 s1 s2 s3 s4 s5 s6 x0 x1 x2 x3
  rintro e w3 ⟨rfl, hb⟩
  have HB3 := Aside0.mk (below_step HB2.out hb)
  have i0 := (blk_cell (blk_below BI2.out hb) 0).trans rfl
  replace x4 := pw_cell_below HB3.out x4
  clear hb HB2 BI2 BS2
  go_wp2
  refine bodyPost_ret (by simp [results, Tryz.results32, go_sem]) rfl ⟨rfl, HB3.out⟩
set_option maxHeartbeats 2000000 in
set_option maxRecDepth 100000 in
theorem instr_T (ab ao : Nat) (al : Option Nat) (A1 A2 : Option Addr) (c0 c1 c2 c4 : Nat) (bb bo : Nat) (bl : Option Nat) (D6 : Option Addr) (e6 : Nat) (D7 : Option Addr) (e7 : Nat) (w : World) (hG : GW w) (x0 : w.cell? ⟨ab, ao, al⟩ = some (.string ⟨#[102]⟩)) (x1 : w.cell? ⟨ab, ao + 1, none⟩ = some (.slice A1 1 c1)) (x2 : w.cell? ⟨ab, ao + 2, none⟩ = some (.slice A2 1 c2)) (x3 : w.cell? ⟨ab, ao + 3, none⟩ = some (.int .i64 2)) (x4 : w.cell? ⟨ab, ao + 4, none⟩ = some (.slice (some ⟨bb, bo, bl⟩) 2 c4)) (y0 : w.cell? ⟨bb, bo + 8, none⟩ = some (.int .i64 26)) (y1 : w.cell? ⟨bb, bo + 8 + 1, none⟩ = some (.int .i64 1)) (y2 : w.cell? ⟨bb, bo + 8 + 2, none⟩ = some (.int .i64 0)) (y3 : w.cell? ⟨bb, bo + 8 + 3, none⟩ = some (.int .i64 0)) (y4 : w.cell? ⟨bb, bo + 8 + 4, none⟩ = some (.int .i64 0)) (y5 : w.cell? ⟨bb, bo + 8 + 5, none⟩ = some (.bool false)) (y6 : w.cell? ⟨bb, bo + 8 + 6, none⟩ = some (.slice D6 0 e6)) (y7 : w.cell? ⟨bb, bo + 8 + 7, none⟩ = some (.slice D7 0 e7)) :
    Calls Tryz.prog 32 #[.slice (some ⟨ab, ao, al⟩) 1 c0, .int .i64 0, .int .i64 1] w fun e w' => e = .returned (.int .i64 0) ∧ Below w.heap.size w w' := by
  have hu73 := Tryz.underlying73
  have hu63 := Tryz.underlying63
  have hu72 := Tryz.underlying72
  have hu61 := Tryz.underlying61
  have hu75 := Tryz.underlying75
  have hu78 := Tryz.underlying78
  have hu77 := Tryz.underlying77
  have hu70 := Tryz.underlying70
  have hu50 := Tryz.underlying50
  have hof : code_of.f 26 = some (⟨#[114, 101, 116, 117, 114, 110]⟩, 6, 0, 0, false, 0, 0, true) := by kernel_rfl
  have HG := Aside0.mk hG
  have HX := Aside0.mk (⟨x0, x1, x2, x3, x4⟩ : _ ∧ _ ∧ _ ∧ _ ∧ _)
  go_enter Tryz.func32, Tryz.ntmps32
  go_wp2_with fail
  (with_reducible refine (code_of.calls 26 _ _ _ _ _ _ _ _ _ ?side1 hof).mono ?_)
  case side1 => exact HG.out.below (below_alloc (Below.refl w.heap.size w) _)
  rintro e w1 ⟨rfl, hb⟩
  have HB := Aside0.mk (below_step (below_alloc (Below.refl w.heap.size w) _) hb)
  have BI := Aside0.mk (blk_below (blk_new w _) hb)
  have HX1 := Aside0.mk HB.out
  have I0 : ∀ o, (w1.alloc o).cell? ⟨w.heap.size, 0, none⟩ = _ := fun o => (blk_cell (blk_alloc BI.out o) 0).trans rfl
  have I1 : ∀ o, (w1.alloc o).cell? ⟨w.heap.size, 1, none⟩ = _ := fun o => (blk_cell (blk_alloc BI.out o) 1).trans rfl
  have I2 : ∀ o, (w1.alloc o).cell? ⟨w.heap.size, 2, none⟩ = _ := fun o => (blk_cell (blk_alloc BI.out o) 2).trans rfl
  have I3 : ∀ o, (w1.alloc o).cell? ⟨w.heap.size, 3, none⟩ = _ := fun o => (blk_cell (blk_alloc BI.out o) 3).trans rfl
  have I4 : ∀ o, (w1.alloc o).cell? ⟨w.heap.size, 4, none⟩ = _ := fun o => (blk_cell (blk_alloc BI.out o) 4).trans rfl
  have I5 : ∀ o, (w1.alloc o).cell? ⟨w.heap.size, 5, none⟩ = _ := fun o => (blk_cell (blk_alloc BI.out o) 5).trans rfl
  have I6 : ∀ o, (w1.alloc o).cell? ⟨w.heap.size, 6, none⟩ = _ := fun o => (blk_cell (blk_alloc BI.out o) 6).trans rfl
  have I7 : ∀ o, (w1.alloc o).cell? ⟨w.heap.size, 7, none⟩ = _ := fun o => (blk_cell (blk_alloc BI.out o) 7).trans rfl
  clear hb x0 x1 x2 x3 x4 y0 y1 y2 y3 y4 y5 y6 y7 HX1
  go_wp2_with fail
  (with_reducible refine (formed_T _ _ _ _ _ _).mono ?_)
  rintro e w2 ⟨rfl, hb⟩
  have BI2 := Aside0.mk (blk_below (blk_alloc BI.out _) hb)
  have BS2 := Aside0.mk (blk_below (blk_new w1 _) hb)
  have HB2 := Aside0.mk (below_step (below_alloc HB.out _) hb)
  clear hb I0 I1 I2 I3 I4 I5 I6 I7 HB BI
  have i0 := (blk_cell BI2.out 0).trans rfl
  have i1 := (blk_cell BI2.out 1).trans rfl
  have i2 := (blk_cell BI2.out 2).trans rfl
  have i3 := (blk_cell BI2.out 3).trans rfl
  have i4 := (blk_cell BI2.out 4).trans rfl
  have i5 := (blk_cell BI2.out 5).trans rfl
  have i6 := (blk_cell BI2.out 6).trans rfl
  have i7 := (blk_cell BI2.out 7).trans rfl
  have s0 := (blk_cell BS2.out 0).trans rfl
  have s1 := (blk_cell BS2.out 1).trans rfl
  have s2 := (blk_cell BS2.out 2).trans rfl
  have s3 := (blk_cell BS2.out 3).trans rfl
  have s4 := (blk_cell BS2.out 4).trans rfl
  have s5 := (blk_cell BS2.out 5).trans rfl
  have s6 := (blk_cell BS2.out 6).trans rfl
  go_wp2_with fail
  obtain ⟨x0, x1, x2, x3, x4⟩ := HX.out
  (with_reducible refine (there_T _ _ _ _ _ _ _ _ _ _ _ _ _ _ _ _ (pw_cell_below HB2.out x0) (pw_cell_below HB2.out x1) (pw_cell_below HB2.out x2) (pw_cell_below HB2.out x3) (pw_cell_below HB2.out x4)).mono ?_)
  clear i0 i1 i2 i3 i4 i5 i6 i7 s0 s1 s2 s3 s4 s5 s6 x0 x1 x2 x3
  rintro e w3 ⟨rfl, hb⟩
  have HB3 := Aside0.mk (below_step HB2.out hb)
  have i0 := (blk_cell (blk_below BI2.out hb) 0).trans rfl
  replace x4 := pw_cell_below HB3.out x4
  clear hb HB2 BI2 BS2
  go_wp2
  refine bodyPost_ret (by simp [results, Tryz.results32, go_sem]) rfl ⟨rfl, HB3.out⟩
set_option maxHeartbeats 2000000 in
set_option maxRecDepth 100000 in
theorem instr_CM (A0 : Option Addr) (c0 : Nat) (w : World) (hG : GW w) (hr0 : Kd.C k50 w A0 1 [sqR]) : Calls Tryz.prog 32 #[.slice A0 1 c0, .int .i64 0, .int .i64 0] w fun e w' => e = .returned (.int .i64 0) ∧ Below w.heap.size w w' := by
  obtain ⟨ad, A1, c1, A2, c2, A4, c4, rfl, x0, x1, x2, x3, x4, _, _, _, _, _, d4⟩ := at_T50 hr0 0 (by decide) (by decide)
  obtain ⟨⟨bb, bo, bl⟩, D6, e6, D7, e7, rfl, y0, y1, y2, y3, y4, y5, y6, y7, _, _, _, _⟩ := at_T63 d4 0 (by decide) (by decide)
  obtain ⟨ab, ao, al⟩ := ad
  exact instr_M ab ao al A1 A2 c0 c1 c2 c4 bb bo bl D6 e6 D7 e7 w hG x0 x1 x2 x3 x4 y0 y1 y2 y3 y4 y5 y6 y7
set_option maxHeartbeats 2000000 in
set_option maxRecDepth 100000 in
theorem instr_CT (A0 : Option Addr) (c0 : Nat) (w : World) (hG : GW w) (hr0 : Kd.C k50 w A0 1 [sqR]) : Calls Tryz.prog 32 #[.slice A0 1 c0, .int .i64 0, .int .i64 1] w fun e w' => e = .returned (.int .i64 0) ∧ Below w.heap.size w w' := by
  obtain ⟨ad, A1, c1, A2, c2, A4, c4, rfl, x0, x1, x2, x3, x4, _, _, _, _, _, d4⟩ := at_T50 hr0 0 (by decide) (by decide)
  obtain ⟨⟨bb, bo, bl⟩, D6, e6, D7, e7, rfl, y0, y1, y2, y3, y4, y5, y6, y7, _, _, _, _⟩ := at_T63 d4 1 (by decide) (by decide)
  obtain ⟨ab, ao, al⟩ := ad
  exact instr_T ab ao al A1 A2 c0 c1 c2 c4 bb bo bl D6 e6 D7 e7 w hG x0 x1 x2 x3 x4 y0 y1 y2 y3 y4 y5 y6 y7
set_option maxHeartbeats 2000000 in
set_option maxRecDepth 100000 in
theorem check_sq (A0 : Option Addr) (c0 : Nat) (w : World) (hG : GW w) (hr0 : Kd.C k50 w A0 1 [sqR]) (hc0 : 1 ≤ c0) : Calls Tryz.prog 12 #[.slice A0 1 c0] w fun e w' => e = .returned (.tuple #[.int .i64 0, .int .i64 0, .int .i64 0]) ∧ Below w.heap.size w w' := by
  have hu50 := Tryz.underlying50
  have HG := Aside0.mk hG
  have HR := Aside0.mk hr0
  have HD : Aside0 (Calls Tryz.prog 31 #[.slice A0 1 c0, .int .i64 0] w fun e w' => e = .returned (.int .i64 0) ∧ Below w.heap.size w w') := ⟨code_head.calls A0 c0 [sqR] 0 0 w hG hr0 hc0 (by decide)⟩
  obtain ⟨ad, A1, c1, A2, c2, A4, c4, eA, x0, x1, x2, x3, x4, _, _, _, _, _, _⟩ := at_T50 hr0 0 (by decide) (by decide)
  subst eA
  obtain ⟨ab, ao, al⟩ := ad
  replace x4 : w.cell? ⟨ab, ao + 4, none⟩ = some (.slice A4 2 c4) := x4
  clear hG hr0 hc0 x0 x1 x2 x3
  go_enter Tryz.func12, Tryz.ntmps12
  go_wp2_with fail
  refine wp_loop_rounds 2 ?_
  rw [rounds_succ]
  go_wp2_with fail
  (with_reducible refine HD.out.mono ?_)
  rintro e w1 ⟨rfl, hb⟩
  have HB := Aside0.mk hb
  replace x4 := pw_cell_below hb x4
  clear hb
  go_wp2_with fail
  refine wp_loop_rounds 3 ?_
  rw [rounds_succ]
  go_wp2_with (go_at_call 32; (with_reducible refine (instr_CM _ _ _ (HG.out.below HB.out) (Kd.C_below HR.out HB.out)).mono ?_); rintro e w2 ⟨rfl, hb⟩; have HB2 := Aside0.mk (below_step HB.out hb); clear hb x4)
  rw [rounds_succ]
  go_wp2_with (go_at_call 32; (with_reducible refine (instr_CT _ _ _ (HG.out.below HB2.out) (Kd.C_below HR.out HB2.out)).mono ?_); rintro e w3 ⟨rfl, hb⟩; have HB3 := Aside0.mk (below_step HB2.out hb); clear hb)
  rw [rounds_succ]
  go_wp2
  rw [rounds_succ]
  go_wp2
  refine bodyPost_ret (by simp [results, Tryz.results12, go_sem]) rfl ⟨rfl, HB3.out⟩
set_option maxHeartbeats 2000000 in
set_option maxRecDepth 100000 in
theorem isCode_sq (A0 : Option Addr) (c0 : Nat) (w : World) (hG : GW w) (hr0 : Kd.C k50 w A0 1 [sqR]) (hc0 : 1 ≤ c0) : Calls Tryz.prog 13 #[.slice A0 1 c0] w fun e w' => e = .returned (.bool true) ∧ Below w.heap.size w w' := by
  go_enter Tryz.func13, Tryz.ntmps13
  go_wp2_with (go_at_call 12; (with_reducible refine (check_sq A0 c0 w hG hr0 hc0).mono ?_); rintro e w1 ⟨rfl, hb⟩)
  refine bodyPost_ret (by simp [results, Tryz.results13, go_sem]) rfl ⟨rfl, hb⟩
def code_IsCode.f (l : List S50) : Option Bool := if isSq l = true then some true else none
theorem code_IsCode.calls (A0 : Option Addr) (c0 : Nat) (l0 : List S50) (r : Bool) (w : World) (hG : GW w) (hr0 : Kd.C k50 w A0 l0.length l0) (hc0 : l0.length ≤ c0) (h : code_IsCode.f l0 = some r) :
    Calls Tryz.prog 13 #[.slice A0 l0.length c0] w fun e w' => e = .returned (.bool r) ∧ Below w.heap.size w w' := by
  unfold code_IsCode.f at h
  by_cases hs : isSq l0 = true
  · rw [if_pos hs] at h
    obtain rfl := Option.some.inj h
    obtain rfl := isSq_of hs
    exact isCode_sq A0 c0 w hG hr0 hc0
  · rw [if_neg hs] at h
    cases h
end Go.Proofs.YtbkknoipgmlcmaaGreatDoor.P

