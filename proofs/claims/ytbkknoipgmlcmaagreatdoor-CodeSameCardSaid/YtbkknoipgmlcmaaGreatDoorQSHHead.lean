import Derived.WalkKit
import Derived.KernelRfl
import Derived.Laws.Externs
import Derived.Laws.BitsLemmas
import Derived.LoopN
import Derived.Handy
import Derived.Lib.AppendZeros
import Derived.Test.YtbkknoipgmlcmaaGreatDoorQSHSq
import Derived.Test.YtbkknoipgmlcmaaGreatDoorQSHShelf
import Derived.Test.YtbkknoipgmlcmaaGreatDoorQSP9
namespace Go.Proofs.YtbkknoipgmlcmaaGreatDoor.P
open Go.RowKit Go.Proofs.YtbkknoipgmlcmaaGreatDoorW.PrintWords Go.Proofs.YtbkknoipgmlcmaaGreatDoorW.PrintLast Go.Proofs.YtbkknoipgmlcmaaGreatDoorW.PrintMore
open Go.Proofs.FX
set_option linter.unusedVariables false
set_option linter.unusedSimpArgs false
set_option maxHeartbeats 2000000 in
set_option maxRecDepth 100000 in
theorem isName_f (w : World) : Calls Tryz.prog 86 #[.string ⟨#[102]⟩] w fun e w' => e = .returned (.bool true) ∧ Below w.heap.size w w' := by
  have ha : ∀ (j : Nat) (b : UInt8), (#[97, 98, 99, 100, 101, 102, 103, 104, 105, 106, 107, 108, 109, 110, 111, 112, 113, 114, 115, 116, 117, 118, 119, 120, 121, 122, 48, 49, 50, 51, 52, 53, 54, 55, 56, 57, 95, 46] : Array UInt8).toList[j]? = some b → b.toNat < 128 := by
    intro j b h
    have hm := List.mem_of_getElem? h
    exact (by decide : ∀ x ∈ (#[97, 98, 99, 100, 101, 102, 103, 104, 105, 106, 107, 108, 109, 110, 111, 112, 113, 114, 115, 116, 117, 118, 119, 120, 121, 122, 48, 49, 50, 51, 52, 53, 54, 55, 56, 57, 95, 46] : Array UInt8).toList, x.toNat < 128) b hm
  have ht : (Lib.trimS [102] [97, 98, 99, 100, 101, 102, 103, 104, 105, 106, 107, 108, 109, 110, 111, 112, 113, 114, 115, 116, 117, 118, 119, 120, 121, 122, 48, 49, 50, 51, 52, 53, 54, 55, 56, 57, 95, 46]).isEmpty = true := by decide
  go_enter Tryz.func86, Tryz.ntmps86
  go_wp2_with (go_at_call 135; refine (Tryz.strings_Trim_set _ _ _ (by decide) (by decide) ha).mono ?_; rintro e w1 ⟨rfl, hb⟩)
  refine bodyPost_ret (by simp [results, Tryz.results86, go_sem]) rfl ⟨rfl, hb⟩
set_option maxHeartbeats 2000000 in
set_option maxRecDepth 100000 in
theorem idxR (A : Option Addr) (c : Nat) (F : Value) (w : World) : Calls Tryz.prog 136 #[.slice A 0 c, F] w fun e w' => e = .returned (.int .i64 (-1)) ∧ Below w.heap.size w w' := by
  go_enter Tryz.func136, Tryz.ntmps136
  go_wp2
  go_rounds 1
  refine bodyPost_ret (by simp [results, Tryz.results136, go_sem]) rfl ⟨rfl, Below.refl _ _⟩
set_option maxHeartbeats 2000000 in
set_option maxRecDepth 100000 in
theorem conR (A : Option Addr) (c : Nat) (F : Value) (w : World) : Calls Tryz.prog 87 #[.slice A 0 c, F] w fun e w' => e = .returned (.bool false) ∧ Below w.heap.size w w' := by
  go_enter Tryz.func87, Tryz.ntmps87
  go_wp2_with (go_at_call 136; refine (idxR _ _ _ _).mono ?_; rintro e w1 ⟨rfl, hb⟩)
  refine bodyPost_ret (by simp [results, Tryz.results87, go_sem]) rfl ⟨rfl, hb⟩
set_option maxHeartbeats 2000000 in
set_option maxRecDepth 100000 in
theorem isType_real (A : Option Addr) (c : Nat) (w : World) : Calls Tryz.prog 92 #[.agg #[.int .i64 1, .slice A 0 c]] w fun e w' => e = .returned (.bool true) ∧ Below w.heap.size w w' := by
  have hu115 := Tryz.underlying115
  have hf : shape_IsType.f 9 1 [] = some true := by kernel_rfl
  go_enter Tryz.func92, Tryz.ntmps92
  go_wp2_with (go_at_call 139; refine (shape_IsType.calls 9 1 A c [] true _ (show Kd.C (Kd.int .i64) _ A 0 [] from ⟨rfl, by simp, fun h => absurd h (Nat.lt_irrefl 0)⟩) (Nat.zero_le _) hf).mono ?_; rintro e w1 ⟨rfl, hb⟩)
  refine bodyPost_ret (by simp [results, Tryz.results92, go_sem]) rfl ⟨rfl, below_step (below_alloc (Below.refl _ _) _) hb⟩
set_option maxHeartbeats 2000000 in
set_option maxRecDepth 100000 in
theorem lit2 (A : Option Addr) (c : Nat) (w : World) : Calls Tryz.prog 91 #[.agg #[.int .i64 1, .slice A 0 c]] w fun e w' => e = .returned (.bool false) ∧ Below w.heap.size w w' := by
  have hu115 := Tryz.underlying115
  go_enter Tryz.func91, Tryz.ntmps91
  go_wp2_with (go_at_call 92; refine (isType_real _ _ _).mono ?_; rintro e w1 ⟨rfl, hb⟩)
  refine bodyPost_ret (by simp [results, Tryz.results91, go_sem]) rfl ⟨rfl, below_step (below_alloc (Below.refl _ _) _) hb⟩
set_option maxHeartbeats 2000000 in
set_option maxRecDepth 100000 in
theorem grow2 (w : World) : Calls Tryz.prog 138 #[.slice none 0 0, .int .i64 2] w fun e w' => ∃ v, e = .returned v ∧ w'.ownsRow w.heap.size 115 2 v 0 [] ∧ Below w.heap.size w w' := by
  obtain ⟨i0, hi, hz0, hz1, hz2⟩ := info_parts info115
  have hr := Lib.run_append_nil_zeros (P := Tryz.prog) w 47 3 47 115 i0 _ .i64 .i64 Tryz.underlying47 Tryz.underlying3 hi hz0 2 (by decide) (by rw [hz1]; decide) (by decide) (by rw [hz2]; decide)
  go_enter Tryz.func138, Tryz.ntmps138
  go_wp2_with (at_builtin; refine Lib.wpList_append_run _ rfl _ _ _ _ rfl _ _ rfl rfl _ _ hr ?_)
  refine bodyPost_ret (by simp [results, Tryz.results138, go_sem]) rfl ⟨_, rfl, ⟨rfl, .inr ⟨w.heap.size, grownCap w 2 0 115, _, rfl, Nat.le_refl _, heap_alloc_new w _, Nat.zero_le _, grownCap_le_maxLen w 2 0 115 (by decide), ?_, rfl⟩⟩, (below_alloc (Below.refl _ _) _).drew⟩
  have hge := grownCap_ge w 2 0 115
  simp only [Array.size_append, size_zeroCells, List.size_toArray, List.length_cons, List.length_nil]
  omega
set_option maxHeartbeats 2000000 in
set_option maxRecDepth 100000 in
theorem cat2 (g c : Nat) (a1 a2 : Addr) (c1 c2 : Nat) (u1 v1 u2 v2 : Value) (w : World) (hs0 : w.cell? ⟨g, 0, none⟩ = some (.slice (some a1) 1 c1)) (hs1 : w.cell? ⟨g, 1, none⟩ = some (.slice (some a2) 1 c2))
    (k0 : w.cell? (a1.add 0) = some u1) (k1 : w.cell? (a1.add 1) = some v1) (k2 : w.cell? (a2.add 0) = some u2) (k3 : w.cell? (a2.add 1) = some v2) (o0 : u1.oneCell' = true) (o1 : v1.oneCell' = true) (o2 : u2.oneCell' = true) (o3 : v2.oneCell' = true) :
    Calls Tryz.prog 90 #[.slice (some ⟨g, 0, none⟩) 2 c] w fun e w' => ∃ v, e = .returned v ∧ w'.ownsRow w.heap.size 115 2 v 2 [u1, v1, u2, v2] ∧ Below w.heap.size w w' := by
  obtain ⟨i0, hi, hz0, hz1, hz2⟩ := info_parts info115
  go_enter Tryz.func90, Tryz.ntmps90
  go_wp2_with fail
  refine wp_loop_rounds 3 ?_
  repeat (rw [rounds_succ]; go_wp2_with fail)
  refine (grow2 _).mono ?_
  rintro e w1 ⟨v, rfl, hown, hb⟩
  have s0 := pw_cell_below hb hs0
  have s1 := pw_cell_below hb hs1
  go_wp2
  refine wp_loop_rounds 3 ?_
  rw [rounds_succ]
  go_wp2_with (at_builtin; refine wpList_append_own _ rfl _ _ 47 rfl w.heap.size 115 i0 _ 2 32 Tryz.underlying47 hi hz0 hz1 hz2 rfl (by decide) _ _ _ rfl hown a1 1 c1 [u1, v1] rfl rfl ?c1 ?c2 (by decide) (by decide) hb.size ?_)
  case c1 =>
    intro j u hj
    match j, hj with
    | 0, hj => obtain rfl := Option.some.inj hj; exact pw_cell_below hb k0
    | 1, hj => obtain rfl := Option.some.inj hj; exact pw_cell_below hb k1
  case c2 =>
    intro u hu
    simp only [List.mem_cons, List.not_mem_nil, or_false] at hu
    rcases hu with rfl | rfl <;> assumption
  intro v2_ w2 hown2 hg2 _
  have hb2 := hb.grown hg2 hb.size (own_base hown)
  replace s0 := pw_cell_below hb2 hs0
  replace s1 := pw_cell_below hb2 hs1
  go_wp2
  rw [rounds_succ]
  go_wp2_with (at_builtin; refine wpList_append_own _ rfl _ _ 47 rfl w.heap.size 115 i0 _ 2 32 Tryz.underlying47 hi hz0 hz1 hz2 rfl (by decide) _ _ _ rfl hown2 a2 1 c2 [u2, v2] rfl rfl ?c1 ?c2 (by decide) (by decide) hb2.size ?_)
  case c1 =>
    intro j u hj
    match j, hj with
    | 0, hj => obtain rfl := Option.some.inj hj; exact pw_cell_below hb2 k2
    | 1, hj => obtain rfl := Option.some.inj hj; exact pw_cell_below hb2 k3
  case c2 =>
    intro u hu
    simp only [List.mem_cons, List.not_mem_nil, or_false] at hu
    rcases hu with rfl | rfl <;> assumption
  intro v3_ w3 hown3 hg3 _
  have hb3 := hb2.grown hg3 hb2.size (own_base hown2)
  go_wp2
  rw [rounds_succ]
  go_wp2
  refine bodyPost_ret (by simp [results, Tryz.results90, go_sem]) rfl ⟨_, rfl, hown3, hb3⟩
set_option maxHeartbeats 2000000 in
set_option maxRecDepth 100000 in
theorem idxT (g c : Nat) (D1 D2 : Option Addr) (e1 e2 : Nat) (F : Value) (hF : F = .func (Fn.func 91) #[] #[]) (w : World) (k0 : w.cell? ⟨g, 0, none⟩ = some (.int .i64 1)) (k1 : w.cell? ⟨g, 1, none⟩ = some (.slice D1 0 e1)) (k2 : w.cell? ⟨g, 2, none⟩ = some (.int .i64 1)) (k3 : w.cell? ⟨g, 3, none⟩ = some (.slice D2 0 e2)) :
    Calls Tryz.prog 137 #[.slice (some ⟨g, 0, none⟩) 2 c, F] w fun e w' => e = .returned (.int .i64 (-1)) ∧ Below w.heap.size w w' := by
  subst hF
  have hu115 := Tryz.underlying115
  go_enter Tryz.func137, Tryz.ntmps137
  go_wp2_with fail
  refine wp_loop_rounds 3 ?_
  rw [rounds_succ]
  go_wp2_with (go_at_call 91; refine (lit2 _ _ _).mono ?_; rintro e w1 ⟨rfl, hb⟩; replace k2 := pw_cell_below hb k2; replace k3 := pw_cell_below hb k3)
  rw [rounds_succ]
  go_wp2_with (go_at_call 91; refine (lit2 _ _ _).mono ?_; rintro e w2 ⟨rfl, hb2⟩)
  rw [rounds_succ]
  go_wp2
  refine bodyPost_ret (by simp [results, Tryz.results137, go_sem]) rfl ⟨rfl, below_step hb hb2⟩
set_option maxHeartbeats 2000000 in
set_option maxRecDepth 100000 in
theorem conT (g c : Nat) (D1 D2 : Option Addr) (e1 e2 : Nat) (w : World) (k0 : w.cell? ⟨g, 0, none⟩ = some (.int .i64 1)) (k1 : w.cell? ⟨g, 1, none⟩ = some (.slice D1 0 e1)) (k2 : w.cell? ⟨g, 2, none⟩ = some (.int .i64 1)) (k3 : w.cell? ⟨g, 3, none⟩ = some (.slice D2 0 e2)) :
    Calls Tryz.prog 89 #[.slice (some ⟨g, 0, none⟩) 2 c, .func (Fn.func 91) #[] #[]] w fun e w' => e = .returned (.bool false) ∧ Below w.heap.size w w' := by
  go_enter Tryz.func89, Tryz.ntmps89
  go_wp2_with (go_at_call 137; refine (idxT g c D1 D2 e1 e2 _ rfl _ k0 k1 k2 k3).mono ?_; rintro e w1 ⟨rfl, hb⟩)
  refine bodyPost_ret (by simp [results, Tryz.results89, go_sem]) rfl ⟨rfl, hb⟩
set_option maxHeartbeats 2000000 in
set_option maxRecDepth 100000 in
theorem head_f (ab ao : Nat) (al : Option Nat) (a1 a2 : Addr) (c0 c1 c2 c4 : Nat) (A4 D1 D2 : Option Addr) (e1 e2 : Nat) (w : World) (x0 : w.cell? ⟨ab, ao, al⟩ = some (.string ⟨#[102]⟩)) (x1 : w.cell? ⟨ab, ao + 1, none⟩ = some (.slice (some a1) 1 c1)) (x2 : w.cell? ⟨ab, ao + 2, none⟩ = some (.slice (some a2) 1 c2)) (x3 : w.cell? ⟨ab, ao + 3, none⟩ = some (.int .i64 2)) (x4 : w.cell? ⟨ab, ao + 4, none⟩ = some (.slice A4 2 c4)) (y0 : w.cell? (a1.add 0) = some (.int .i64 1)) (y1 : w.cell? (a1.add 1) = some (.slice D1 0 e1)) (z0 : w.cell? (a2.add 0) = some (.int .i64 1)) (z1 : w.cell? (a2.add 1) = some (.slice D2 0 e2)) :
    Calls Tryz.prog 31 #[.slice (some ⟨ab, ao, al⟩) 1 c0, .int .i64 0] w fun e w' => e = .returned (.int .i64 0) ∧ Below w.heap.size w w' := by
  have hu50 := Tryz.underlying50
  have HB0 := Aside0.mk (Below.refl w.heap.size w)
  go_enter Tryz.func31, Tryz.ntmps31
  go_wp2_with (first
    | (go_at_call 86; refine (isName_f _).mono ?_; rintro e w1 ⟨rfl, hb⟩; have BK := Aside0.mk (blk_below (blk_new w _) hb); have HB1 := Aside0.mk (below_step (below_alloc HB0.out _) hb); clear hb; clear x0 x1 x2 x3 x4)
    | (go_at_call 87; refine (conR _ _ _ _).mono ?_; rintro e w2 ⟨rfl, hb⟩; have BK2 := Aside0.mk (blk_below BK.out hb); have HB2 := Aside0.mk (below_step HB1.out hb); clear hb; have r1 := (blk_cell BK2.out 1).trans rfl; have r2 := (blk_cell BK2.out 2).trans rfl))
  have hsz2 : w2.heap.size ≤ (w2.alloc (Obj.cells #[Value.slice (some a1) 1 c1, Value.slice (some a2) 1 c2] 47)).heap.size := (below_alloc (Below.refl w2.heap.size w2) _).size
  have hW := below_alloc HB2.out (Obj.cells #[Value.slice (some a1) 1 c1, Value.slice (some a2) 1 c2] 47)
  refine (cat2 _ 2 a1 a2 c1 c2 (.int .i64 1) (.slice D1 0 e1) (.int .i64 1) (.slice D2 0 e2) _ ((blk_cell (blk_new w2 _) 0).trans rfl) ((blk_cell (blk_new w2 _) 1).trans rfl) (pw_cell_below hW y0) (pw_cell_below hW y1) (pw_cell_below hW z0) (pw_cell_below hW z1) rfl rfl rfl rfl).mono ?_
  rintro e w3 ⟨v, rfl, hown, hb⟩
  obtain ⟨g, cap, rfl⟩ : ∃ g cap, v = .slice (some ⟨g, 0, none⟩) 2 cap := by
    rcases hown.2 with ⟨_, h0⟩ | ⟨g, cap, cur, hv, _⟩
    · exact absurd h0 (by decide)
    · exact ⟨g, cap, hv⟩
  have cs := hown.cells (g := g) rfl
  have q0 := cs 0 _ rfl
  have q1 := cs 1 _ rfl
  have q2 := cs 2 _ rfl
  have q3 := cs 3 _ rfl
  simp only [Addr.add_lit, Nat.zero_add] at q0 q1 q2 q3
  have HB3 := Aside0.mk (below_step hW hb)
  have BK3 := Aside0.mk (blk_below (blk_alloc BK2.out (Obj.cells #[Value.slice (some a1) 1 c1, Value.slice (some a2) 1 c2] 47)) hb)
  clear cs hown hb hW hsz2 r1 r2
  go_wp2_with (go_at_call 89; refine (conT g cap D1 D2 e1 e2 _ q0 q1 q2 q3).mono ?_; rintro e w4 ⟨rfl, hb⟩; have BK4 := Aside0.mk (blk_below BK3.out hb); have HB4 := Aside0.mk (below_step HB3.out hb); clear hb; have r1 := (blk_cell BK4.out 1).trans rfl; have r2 := (blk_cell BK4.out 2).trans rfl; have r3 := (blk_cell BK4.out 3).trans rfl; have r4 := (blk_cell BK4.out 4).trans rfl)
  refine bodyPost_ret (by simp [results, Tryz.results31, go_sem]) rfl ⟨rfl, HB4.out⟩
def code_head.f (l : List S50) (at_ : Int) : Option Int := if isSq l = true ∧ at_ = 0 then some 0 else none
theorem code_head.calls (A0 : Option Addr) (c0 : Nat) (l0 : List S50) (a1 : Int) (r : Int) (w : World) (hG : GW w) (hr0 : Kd.C k50 w A0 l0.length l0) (hc0 : l0.length ≤ c0) (h : code_head.f l0 a1 = some r) :
    Calls Tryz.prog 31 #[.slice A0 l0.length c0, .int .i64 a1] w fun e w' => e = .returned (.int .i64 r) ∧ Below w.heap.size w w' := by
  unfold code_head.f at h
  by_cases hs : isSq l0 = true ∧ a1 = 0
  · rw [if_pos hs] at h
    obtain rfl := Option.some.inj h
    obtain ⟨hs, rfl⟩ := hs
    obtain rfl := isSq_of hs
    obtain ⟨ad, A1, c1, A2, c2, A4, c4, rfl, x0, x1, x2, x3, x4, _, d1, _, d2, _, _⟩ := at_T50 hr0 0 (by decide) (by decide)
    obtain ⟨a1, D1, e1, rfl, y0, y1, _, _⟩ := at_T115 d1 0 (by decide) (by decide)
    obtain ⟨a2, D2, e2, rfl, z0, z1, _, _⟩ := at_T115 d2 0 (by decide) (by decide)
    obtain ⟨ab, ao, al⟩ := ad
    exact head_f ab ao al a1 a2 c0 c1 c2 c4 A4 D1 D2 e1 e2 w x0 x1 x2 x3 x4 y0 y1 z0 z1
  · rw [if_neg hs] at h
    cases h
end Go.Proofs.YtbkknoipgmlcmaaGreatDoor.P

