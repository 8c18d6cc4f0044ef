import Derived.LoopN
import Derived.Handy
import Derived.IntWalk
import Derived.Deep.RegionHeld3
import Derived.BigQuiet
import Derived.Deep.QuietTactic
import Derived.Test.YtbkknoipgmlcmaaGreatDoorQCM10
import Derived.Test.YtbkknoipgmlcmaaGreatDoorQCM20
set_option linter.unusedVariables false
set_option linter.unusedSimpArgs false
set_option maxHeartbeats 8000000
set_option maxRecDepth 100000
namespace Go.Proofs.YtbkknoipgmlcmaaGreatDoor.P
open Go.RowKit Go.Proofs.YtbkknoipgmlcmaaGreatDoorW.PrintWords Go.Proofs.YtbkknoipgmlcmaaGreatDoorW.PrintLast Go.Proofs.YtbkknoipgmlcmaaGreatDoorW.PrintMore
open Go.Proofs.FX
attribute [local go_sem] Instr.index cell_twice le_add_cast
def IsS104 (w0 W : World) (g : Nat) (f0 : List Int) (f1 : Int) (f2 : Int) : Prop := ∃ A0 c0, W.heap[g]? = some (.cells #[.slice A0 f0.length c0, .int .i64 f1, .int .i64 f2] 104 (0, 0)) ∧ (w0.heap.size ≤ g ∧ f0.length ≤ c0) ∧ Kd.C (Kd.int .u8) w0 A0 f0.length f0
theorem IsS104.grown {w0 W : World} {g : Nat} {f0 : List Int} {f1 : Int} {f2 : Int} {W1 : World} {row : Option Nat} (h : IsS104 w0 W g f0 f1 f2) (hw : W.grownBy W1 row) (hne : some g ≠ row) : IsS104 w0 W1 g f0 f1 f2 := by
 obtain ⟨A0, c0, hb, hg, hr0⟩ := h
 exact ⟨A0, c0, blk_grown hb hw hne, hg, hr0⟩
theorem IsS104.kept {w0 W : World} {g : Nat} {f0 : List Int} {f1 : Int} {f2 : Int} {W1 : World} {S : Nat → Prop} (h : IsS104 w0 W g f0 f1 f2) (hk : Kept W W1 S) (hne : ¬ S g) : IsS104 w0 W1 g f0 f1 f2 := by
 obtain ⟨A0, c0, hb, hg, hr0⟩ := h
 exact ⟨A0, c0, blk_kept hb hk hne, hg, hr0⟩
theorem IsS104.below {w0 W : World} {g : Nat} {f0 : List Int} {f1 : Int} {f2 : Int} {W1 : World} (h : IsS104 w0 W g f0 f1 f2) (hw : Below W.heap.size W W1) : IsS104 w0 W1 g f0 f1 f2 := h.grown (grown_of_below hw none) (by simp)
theorem IsS104.alloc {w0 W : World} {g : Nat} {f0 : List Int} {f1 : Int} {f2 : Int} (h : IsS104 w0 W g f0 f1 f2) (o : Obj) : IsS104 w0 (W.alloc o) g f0 f1 f2 := h.below (below_alloc (Below.refl _ _) o)
theorem IsS104.drewN {w0 W : World} {g : Nat} {f0 : List Int} {f1 : Int} {f2 : Int} (h : IsS104 w0 W g f0 f1 f2) (m : Nat) : IsS104 w0 (W.drewN m) g f0 f1 f2 := h
theorem IsS104.drew {w0 W : World} {g : Nat} {f0 : List Int} {f1 : Int} {f2 : Int} (h : IsS104 w0 W g f0 f1 f2) : IsS104 w0 W.drew g f0 f1 f2 := h
theorem IsS104.at_ {w0 W : World} {g : Nat} {f0 : List Int} {f1 : Int} {f2 : Int} {w' : World} {m : Nat} (hq : W.drewN m = w') (h : IsS104 w0 W g f0 f1 f2) : IsS104 w0 w' g f0 f1 f2 := by subst hq; exact IsS104.drewN h m
theorem IsS104.apart {w0 W : World} {g : Nat} {f0 : List Int} {f1 : Int} {f2 : Int} {α : Type} {d : Kd α} {e : Nat} {base : Nat} {ok : Nat → Prop} {v : Value} {xs : List α} (h : IsS104 w0 W g f0 f1 f2) (ho : d.R e W base ok v xs) (ht : ∀ q, q ∈ e :: d.E → q ≠ 104) : d.R e W base (fun k => ok k ∧ k ≠ g) v xs := by
 obtain ⟨A0, c0, hb, hg, hr0⟩ := h
 exact Kd.R_types ho hb ht
theorem IsS104.own_ne {w0 W : World} {g : Nat} {f0 : List Int} {f1 : Int} {f2 : Int} {α : Type} {d : Kd α} {e : Nat} {base : Nat} {ok : Nat → Prop} {v : Value} {xs : List α} (h : IsS104 w0 W g f0 f1 f2) (ho : d.R e W base ok v xs) (ht : e ≠ 104) : some g ≠ v.ownBlock := by
 obtain ⟨A0, c0, hb, hg, hr0⟩ := h
 exact Kd.R_ne ho hb ht
theorem IsS104.lt {w0 W : World} {g : Nat} {f0 : List Int} {f1 : Int} {f2 : Int} (h : IsS104 w0 W g f0 f1 f2) : g < W.heap.size := by
 obtain ⟨A0, c0, hb, hg, hr0⟩ := h
 exact blk_lt hb
theorem IsS104.ge {w0 W : World} {g : Nat} {f0 : List Int} {f1 : Int} {f2 : Int} (h : IsS104 w0 W g f0 f1 f2) : w0.heap.size ≤ g := by
 obtain ⟨A0, c0, hb, hg, hr0⟩ := h
 exact hg.1
theorem IsS104.far {w0 W : World} {g : Nat} {f0 : List Int} {f1 : Int} {f2 : Int} {p : Addr} (h : IsS104 w0 W g f0 f1 f2) (hne : g ≠ p.block) (u : Value) : IsS104 w0 (W.setCell p u) g f0 f1 f2 := by
 obtain ⟨A0, c0, hb, hg, hr0⟩ := h
 exact ⟨A0, c0, blk_far hb hne u, hg, hr0⟩
theorem cellS104_0 {W : World} {g : Nat} {A0 : Option Addr} {c0 : Nat} {f0 : List Int} {f1 : Int} {f2 : Int} (h : W.heap[g]? = some (.cells #[.slice A0 f0.length c0, .int .i64 f1, .int .i64 f2] 104 (0, 0))) : W.cell? ⟨g, 0, none⟩ = some (.slice A0 f0.length c0) := (blk_cell h 0).trans rfl
theorem cellS104_1 {W : World} {g : Nat} {A0 : Option Addr} {c0 : Nat} {f0 : List Int} {f1 : Int} {f2 : Int} (h : W.heap[g]? = some (.cells #[.slice A0 f0.length c0, .int .i64 f1, .int .i64 f2] 104 (0, 0))) : W.cell? ⟨g, 1, none⟩ = some (.int .i64 f1) := (blk_cell h 1).trans rfl
theorem IsS104.set_1 {w0 W : World} {g : Nat} {f0 : List Int} {f1 : Int} {f2 : Int} (h : IsS104 w0 W g f0 f1 f2) (x : Int) : IsS104 w0 (W.setCell ⟨g, 1, none⟩ (.int .i64 x)) g f0 x f2 := by
 obtain ⟨A0, c0, hb, hg, hr0⟩ := h
 exact ⟨A0, c0, by simpa using blk_set hb 1 (.int .i64 x), hg, hr0⟩
theorem cellS104_2 {W : World} {g : Nat} {A0 : Option Addr} {c0 : Nat} {f0 : List Int} {f1 : Int} {f2 : Int} (h : W.heap[g]? = some (.cells #[.slice A0 f0.length c0, .int .i64 f1, .int .i64 f2] 104 (0, 0))) : W.cell? ⟨g, 2, none⟩ = some (.int .i64 f2) := (blk_cell h 2).trans rfl
theorem IsS104.new (w0 W : World) (A0 : Option Addr) (c0 : Nat) (f0 : List Int) (f1 : Int) (f2 : Int) (hB : Below w0.heap.size w0 W) (hr0 : Kd.C (Kd.int .u8) w0 A0 f0.length f0) (hc0 : f0.length ≤ c0) : IsS104 w0 (W.alloc (.cells #[.slice A0 f0.length c0, .int .i64 f1, .int .i64 f2] 104)) W.heap.size f0 f1 f2 := ⟨A0, c0, by simpa using heap_alloc_new W _, ⟨hB.size, hc0⟩, hr0⟩
abbrev Zag (x v : Int) : Prop := (x = 2 ∧ v = 1) ∨ (x = 0 ∧ v = 0) ∨ (x = 4 ∧ v = 2) ∨ (x = 16 ∧ v = 8) ∨ (x = 52 ∧ v = 26)
theorem zag_zero {x v : Int} (h : Zag x v) (hx : x = 0) {F : Ending} (h0 : F = .returned (.int .i64 0)) : F = .returned (.int .i64 v) := by
 have h1 : v = 0 := by rcases h with ⟨h, _⟩ | ⟨_, h⟩ | ⟨h, _⟩ | ⟨h, _⟩ | ⟨h, _⟩ <;> omega
 rw [h1, h0]
theorem zag_u {x v : Int} (h : Zag x v) : bits BinOp.or IntKind.u64 0 (IntKind.u64.wrap (IntKind.u64.wrap (bits BinOp.and IntKind.u8 x 127))) = x := by
 rcases h with ⟨rfl, rfl⟩ | ⟨rfl, rfl⟩ | ⟨rfl, rfl⟩ | ⟨rfl, rfl⟩ | ⟨rfl, rfl⟩ <;> kernel_rfl
theorem zag_v {x v : Int} (h : Zag x v) : bits BinOp.xor IntKind.i64 (wrap64 (x / 2)) (wrap64 (-wrap64 (bits BinOp.and IntKind.u64 x 1))) = v := by
 rcases h with ⟨rfl, rfl⟩ | ⟨rfl, rfl⟩ | ⟨rfl, rfl⟩ | ⟨rfl, rfl⟩ | ⟨rfl, rfl⟩ <;> kernel_rfl
theorem whole_at (p : Nat) (x v : Int) (hp : p < 19) (hx : sqBytes.getD p 0 = x) (hv : Zag x v) (g : Nat) (w0 w : World) (hI : IsS104 w0 w g sqBytes p (-1)) (hB : Below w0.heap.size w0 w) :
 Calls Tryz.prog 63 #[.pointer (some ⟨g, 0, none⟩)] w fun e w' => e = .returned (.int .i64 v) ∧ IsS104 w0 w' g sqBytes (p + 1) (-1) ∧ Below w0.heap.size w0 w' ∧ KeepBut w w' g none := by
 have HI := aS hI
 have HB := aS hB
 obtain ⟨A, c, HG, ⟨hg, hc⟩, HS⟩ := hI
 obtain ⟨ad, rfl, hb⟩ := (Kd.reads_of_C (enc := Value.int .u8) (d := (0 : Int)) (h1 := fun _ => rfl) HS).2.2 (by decide)
 replace hb := pw_cell_below hB (hb p hp)
 rw [hx] at hb
 clear HS hx
 have z0 : w.cell? ⟨g, 0, none⟩ = some (.slice (some ad) 19 c) := cellS104_0 HG
 have z1 := cellS104_1 HG
 have z2 := cellS104_2 HG
 have k0 : decide ((19 : Int) ≤ p) = false := dF (by omega)
 have k1 : decide (19 ≤ p) = false := dF (by omega)
 have f1 := blk_frozen HG 1
 have kx : decide (x < 128) = true := dT (by rcases hv with ⟨rfl, _⟩ | ⟨rfl, _⟩ | ⟨rfl, _⟩ | ⟨rfl, _⟩ | ⟨rfl, _⟩ <;> omega)
 have HV := aS hv
 have ku := zag_u hv
 have kv := zag_v hv
 clear hB hc hg hv HG
 go_enter Tryz.func63, Tryz.ntmps63
 go_wp2
 refine wp_loop_rounds 1 ?_
 rw [rounds_succ]
 go_wp2
 repeat (go_quiet (fail); try go_wp2)
 all_goals
  go_ret
  refine ⟨?_, IsS104.set_1 (IsS104.drewN HI.out _) _, below_set (pw_below_drewN HB.out _) HI.out.ge, KeepBut.set_ (keep_drewN (KeepBut.refl w g none) _) _ _⟩
  first | rfl | (refine zag_zero HV.out ‹x = 0› ?_; kernel_rfl)
theorem many_at (p : Nat) (x v : Int) (hp : p < 19) (hx : sqBytes.getD p 0 = x) (hv : Zag x v) (hl : v ≤ 18 - p) (g : Nat) (w0 w : World) (hI : IsS104 w0 w g sqBytes p (-1)) (hB : Below w0.heap.size w0 w) :
 Calls Tryz.prog 60 #[.pointer (some ⟨g, 0, none⟩)] w fun e w' => e = .returned (.int .i64 v) ∧ IsS104 w0 w' g sqBytes (p + 1) (-1) ∧ Below w0.heap.size w0 w' ∧ KeepBut w w' g none := by
 have hc := whole_at p x v hp hx hv g w0
 have h0 : 0 ≤ v := by rcases hv with ⟨_, rfl⟩ | ⟨_, rfl⟩ | ⟨_, rfl⟩ | ⟨_, rfl⟩ | ⟨_, rfl⟩ <;> decide
 have k0 : decide (v < 0) = false := dF (by omega)
 have k1 : decide (19 - ((p : Int) + 1) < v) = false := dF (by omega)
 have kw : IntKind.i64.wrap (19 - ((p : Int) + 1)) = 19 - ((p : Int) + 1) := IntWalk.i64_in _ (by omega)
 clear hx hv hl
 have HC := aS hc
 have HI := aS hI
 have HB := aS hB
 obtain ⟨A, c, HG, -⟩ := hI
 have z1 := cellS104_1 HG
 clear HG hB hc
 go_enter Tryz.func60, Tryz.ntmps60
 go_wp2_with fail
 (with_reducible refine (HC.out _ HI.out HB.out).mono ?_)
 rintro e w1 ⟨rfl, hI1, hB1, hK1⟩
 have HI1 := aS hI1
 have HB1 := aS hB1
 have HK1 := aS hK1
 clear z1
 obtain ⟨A, c, HG, -⟩ := hI1
 have z0 : w1.cell? ⟨g, 0, none⟩ = some (.slice A 19 c) := cellS104_0 HG
 have z1 := cellS104_1 HG
 have z2 := cellS104_2 HG
 clear HG hB1 hK1 HI HB
 go_wp2
 repeat (go_quiet (fail); try go_wp2)
 all_goals go_ret
 all_goals exact ⟨rfl, IsS104.drewN HI1.out _, pw_below_drewN HB1.out _, keep_drewN HK1.out _⟩
theorem whole_c (p : Nat) (q r x v : Int) (hq : q = p) (hr : r = p + 1) (hp : p < 19) (hx : sqBytes.getD p 0 = x) (hv : Zag x v) (g : Nat) (w0 w : World) (hI : IsS104 w0 w g sqBytes q (-1)) (hB : Below w0.heap.size w0 w) :
 Calls Tryz.prog 63 #[.pointer (some ⟨g, 0, none⟩)] w fun e w' => e = .returned (.int .i64 v) ∧ IsS104 w0 w' g sqBytes r (-1) ∧ Below w0.heap.size w0 w' ∧ KeepBut w w' g none := by
 subst hq hr
 exact whole_at p x v hp hx hv g w0 w hI hB
theorem many_c (p : Nat) (q r x v : Int) (hq : q = p) (hr : r = p + 1) (hp : p < 19) (hx : sqBytes.getD p 0 = x) (hv : Zag x v) (hl : v ≤ 18 - p) (g : Nat) (w0 w : World) (hI : IsS104 w0 w g sqBytes q (-1)) (hB : Below w0.heap.size w0 w) :
 Calls Tryz.prog 60 #[.pointer (some ⟨g, 0, none⟩)] w fun e w' => e = .returned (.int .i64 v) ∧ IsS104 w0 w' g sqBytes r (-1) ∧ Below w0.heap.size w0 w' ∧ KeepBut w w' g none := by
 subst hq hr
 exact many_at p x v hp hx hv hl g w0 w hI hB
theorem text_at (g : Nat) (w0 w : World) (hI : IsS104 w0 w g sqBytes 1 (-1)) (hB : Below w0.heap.size w0 w) :
 Calls Tryz.prog 61 #[.pointer (some ⟨g, 0, none⟩)] w fun e w' => e = .returned (.string ⟨#[102]⟩) ∧ IsS104 w0 w' g sqBytes 3 (-1) ∧ Below w0.heap.size w0 w' ∧ KeepBut w w' g none := by
 have HI := aS hI
 have HB := aS hB
 clear hI hB
 go_enter Tryz.func61, Tryz.ntmps61
 go_wp2_with fail
 (with_reducible refine (many_c 1 1 2 2 1 rfl rfl (by decide) rfl (by decide) (by decide) g _ _ HI.out HB.out).mono ?_)
 rintro e w1 ⟨rfl, hI1, hB1, hK1⟩
 have HI1 := aS hI1
 have HB1 := aS hB1
 have HK1 := aS hK1
 obtain ⟨A, c, HG, hg, HS⟩ := hI1
 have z0 : w1.cell? ⟨g, 0, none⟩ = some (.slice A 19 c) := cellS104_0 HG
 have z1 := cellS104_1 HG
 have f1 := blk_frozen HG 1
 have k2 : (3 ≤ (c : Int)) = True := eq_true (by have := hg.2; have h19 : sqBytes.length = 19 := rfl; omega)
 have k3 : (3 ≤ c) = True := eq_true (by have := hg.2; have h19 : sqBytes.length = 19 := rfl; omega)
 have hcv : ∀ m, (convert 30 9 (.slice (if c = 2 then A else Option.map (fun x => ({ block := x.block, off := x.off + 2 } : Addr)) A) 1 (c - 2))).run Tryz.prog (w1.drewN m) = .ok (.string ⟨#[102]⟩) (w1.drewN m) := by
  intro m
  have hg2 := hg.2
  have hT := Kd.C_take (m := 3) (Kd.C_below HS hB1) (by decide)
  have hD := Kd.C_drop (m := 2) (c := c) hT (by decide) (by have h3 : (sqBytes.take 3).length = 3 := rfl; have h19 : sqBytes.length = 19 := rfl; omega)
  exact Kd.C_string (P := Tryz.prog) (c := c - 2) Tryz.underlying30 Tryz.underlying5 Tryz.underlying9 (Kd.C_drewN hD m)
 clear HG hg HS hB1 hK1 HI HB
 go_wp2
 go_quiet (fail)
 go_wp2
 all_goals refine bodyPost_ret (by simp [results, Tryz.results61, go_sem]) rfl ⟨rfl, IsS104.set_1 (IsS104.drewN HI1.out _) _, below_set (pw_below_drewN HB1.out _) HI1.out.ge, KeepBut.set_ (keep_drewN HK1.out _) _ _⟩
theorem R_rd {α : Type} {d : Kd α} {e base g : Nat} {v : Value} {xs : List α} {w0 W W' : World} {f0 : List Int} {f1 f2 : Int} (hI : IsS104 w0 W g f0 f1 f2) (ho : d.R e W base (fun _ => True) v xs) (hk : KeepBut W W' g none) (ht : ∀ q, q ∈ e :: d.E → q ≠ 104 := by decide) : d.R e W' base (fun _ => True) v xs :=
 Kd.R_mono (Kd.R_keep (hI.apart ho ht) hk (fun _ h => h.2)) (fun _ _ => trivial)
theorem types_at (p : Nat) (hp : p + 1 < 19) (h1 : sqBytes.getD p 0 = 2) (h2 : sqBytes.getD (p + 1) 0 = 0) (g : Nat) (w0 w : World) (hI : IsS104 w0 w g sqBytes p (-1)) (hB : Below w0.heap.size w0 w) :
 Calls Tryz.prog 62 #[.pointer (some ⟨g, 0, none⟩), .int .i64 1] w fun e w' => ∃ v, e = .returned v ∧ Kd.R k115 115 w' w.heap.size (fun _ => True) v [tyR] ∧ IsS104 w0 w' g sqBytes (p + 2) (-1) ∧ Below w0.heap.size w0 w' ∧ KeepBut w w' g none := by
 have hu115 := Tryz.underlying115
 have HI := aS hI
 have HB := aS hB
 have HC := aS (fun W hI hB => whole_c p p (p + 1) 2 1 rfl rfl (by omega) h1 (by decide) g w0 W hI hB)
 have HD := aS (fun W hI hB => many_c (p + 1) (p + 1) (p + 2) 0 0 (by omega) (by omega) (by omega) h2 (by decide) (by omega) g w0 W hI hB)
 obtain ⟨A, c, HG, -⟩ := hI
 have z2 := cellS104_2 HG
 clear hB HG h1 h2
 go_enter Tryz.func62, Tryz.ntmps62
 go_wp2
 refine wp_loop_rounds 2 ?_
 rw [rounds_succ]
 go_wp2_with fail
 (with_reducible refine (HC.out _ HI.out HB.out).mono ?_)
 rintro e w1 ⟨rfl, hI1, hB1, hK1⟩
 have HI1 := aS (IsS104.alloc hI1 (.cells #[.int .i64 1, .slice none 0 0] 115))
 have HB1 := aS (below_alloc hB1 (.cells #[.int .i64 1, .slice none 0 0] 115))
 have HK1 := aS (keep_alloc hK1 (.cells #[.int .i64 1, .slice none 0 0] 115))
 have hne := Nat.ne_of_gt hI1.lt
 have NE := aS hne
 clear hI1 hB1 hK1 z2 hne
 have BT := aS (blk_new w1 (.cells #[.int .i64 1, .slice none 0 0] 115))
 go_wp2_with fail
 (with_reducible refine (HD.out _ HI1.out HB1.out).mono ?_)
 rintro e w2 ⟨rfl, hI2, hB2, hK2⟩
 have HI2 := aS hI2
 have HB2 := aS hB2
 have HK2 := aS (KeepBut.trans HK1.out hK2 (.inl rfl))
 replace BT := aS (KeepBut.blk hK2 BT.out NE.out (by simp))
 obtain ⟨A, c, HG, -⟩ := hI2
 have z2 := cellS104_2 HG
 have b0 := (blk_cell BT.out 0).trans rfl
 have b1 := (blk_cell BT.out 1).trans rfl
 clear hB2 hK2 HG
 go_wp2
 refine wp_loop_rounds 1 ?_
 rw [rounds_succ]
 go_wp2_with (at_builtin; refine Kd.R_append k115 w.heap.size rfl (.tmp 42) (.tmp 44) 47 115 (.agg #[(.int .i64 0), (.slice none 0 0)]) 32 rfl Tryz.underlying47 info115 rfl (by decide) (by omega) (.slice none 0 0) [] tyR [.int .i64 1, .slice none 0 0] (fun _ => True) (fun _ => False) rfl rfl ?aP (fun _ hk => hk.elim) ?aF ?aO (Below.refl _ _) ?aS ?aL ?_)
 case aP => exact k115_mkM _ _ _ tyR (Kd.R_nil _ _ _ _ _)
 case aF => exact fun _ _ => trivial
 case aO => exact Kd.R_nil _ _ _ _ _
 case aS => exact HK2.out.1
 case aL => decide
 intro v1 w3 hR hb hg hat
 have HR := aS hR
 have HI3 := aS (IsS104.grown HI2.out hg (by simp [Value.ownBlock]))
 have HB3 := aS (HB2.out.trans (hb.mono HB.out.size))
 have HK3 := aS (KeepBut.trans HK2.out (KeepBut.of_grown hg g) (.inl rfl))
 clear hR hb hg hat b0 b1 z2
 obtain ⟨Av, cv, rfl⟩ := Kd.R_slice HR.out
 go_wp2
 rw [rounds_succ]
 go_wp2
 exact bodyPost_ret (by simp [results, Tryz.results62, go_sem]) rfl ⟨_, rfl, HR.out, HI3.out, HB3.out, HK3.out⟩
theorem within_at (p : Nat) (q r x v : Int) (hq : q = p) (hr : r = p + 1) (hp : p < 19) (hx : sqBytes.getD p 0 = x) (hv : Zag x v) (h1 : 1 ≤ v) (h2 : v ≤ 26) (g : Nat) (w0 w : World) (hI : IsS104 w0 w g sqBytes q (-1)) (hB : Below w0.heap.size w0 w) :
 Calls Tryz.prog 115 #[.pointer (some ⟨g, 0, none⟩), .int .i64 1, .int .i64 26] w fun e w' => e = .returned (.int .i64 v) ∧ IsS104 w0 w' g sqBytes r (-1) ∧ Below w0.heap.size w0 w' ∧ KeepBut w w' g none := by
 have HC := aS (whole_c p q r x v hq hr hp hx hv g w0)
 have k0 : decide (v < 1) = false := dF (by omega)
 have k1 : decide (26 < v) = false := dF (by omega)
 have HI := aS hI
 have HB := aS hB
 obtain ⟨A, c, HG, -⟩ := hI
 have z1 := cellS104_1 HG
 clear HG hB hq hr hx hv
 go_enter Tryz.func115, Tryz.ntmps115
 go_wp2_with fail
 (with_reducible refine (HC.out _ HI.out HB.out).mono ?_)
 rintro e w1 ⟨rfl, hI1, hB1, hK1⟩
 have HI1 := aS hI1
 have HB1 := aS hB1
 have HK1 := aS hK1
 clear z1
 obtain ⟨A, c, HG, -⟩ := hI1
 have z2 := cellS104_2 HG
 clear HG hB1 hK1 HI HB
 go_wp2
 repeat (go_quiet (fail); try go_wp2)
 all_goals go_ret
 all_goals exact ⟨rfl, HI1.out, HB1.out, HK1.out⟩
end Go.Proofs.YtbkknoipgmlcmaaGreatDoor.P

